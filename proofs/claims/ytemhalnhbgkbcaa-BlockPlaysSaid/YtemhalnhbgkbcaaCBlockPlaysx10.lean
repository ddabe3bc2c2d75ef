/- The law BlockPlays for every input: texts of ours, put together (part 11 of 17). No further condition. -/
import Derived.Test.YtemhalnhbgkbcaaCBlockPlaysx2
import Derived.Test.YtemhalnhbgkbcaaCBlockPlaysx6
import Derived.Test.YtemhalnhbgkbcaaCBlockPlaysx9
import Derived.Test.YtemhalnhbgkbcaaCBlockPlaysx8
import Derived.Test.YtemhalnhbgkbcaaCBlockPlaysx7
import Derived.Outline
import Derived.Test.YtemhalnhbgkbcaaCBlockPlaysx4
import Derived.Test.YtemhalnhbgkbcaaCBlockPlaysx5
import Derived.Test.YtemhalnhbgkbcaaCBlockPlaysx3
import Derived.Test.YtemhalnhbgkbcaaCBlockPlaysw0
set_option linter.unusedVariables false
set_option linter.unusedSimpArgs false
open Go.RowKit Go.Proofs.YtemhalnhbgkbcaaW.PrintWords Go.Proofs.YtemhalnhbgkbcaaW.PrintLast Go.Proofs.YtemhalnhbgkbcaaW.PrintMore Go.Proofs.Ytemhalnhbgkbcaa.Z
section
namespace Go.Proofs.Ytemhalnhbgkbcaa.V
theorem zw (l : List Int) (i : Nat) (h : i < l.length) : rd l (i : Int) = l[i] := by simp [rd, List.getD, h]
theorem BV (l : List Int) (hl : l.length ≤ 1000) (x : Int) (k : Nat) (hk : l.length < k) : aM.f k l x = some ((l.count x : Nat) : Int) := by
 have key : ∀ (d k i c : Nat), i + d = l.length → d < k → c ≤ i → aM.l0 k x (c : Int) l (l.length : Int) (i : Int) = some ((c + (l.drop i).count x : Nat) : Int) := by
  intro d
  induction d with
  | zero =>
   intro k i c hi hk hc
   obtain ⟨k, rfl⟩ : ∃ m, k = m + 1 := ⟨k - 1, by omega⟩
   rw [aM.l0, if_neg (by omega), List.drop_of_length_le (by omega)]
   simp
  | succ d ih =>
   intro k i c hi hk hc
   obtain ⟨k, rfl⟩ : ∃ m, k = m + 1 := ⟨k - 1, by omega⟩
   have hil : i < l.length := by omega
   rw [aM.l0, if_pos (by omega), if_pos (by omega), if_pos (by omega), zw l i hil, iC ((i : Int) + 1) (by omega) (by omega), iC ((c : Int) + 1) (by omega) (by omega), List.drop_eq_getElem_cons hil, List.count_cons]
   by_cases h : l[i] = x
   ·rw [if_pos h, show (c : Int) + 1 = ((c + 1 : Nat) : Int) by omega, show (i : Int) + 1 = ((i + 1 : Nat) : Int) by omega, ih k (i + 1) (c + 1) (by omega) (by omega) (by omega)]
    simp [h]
    omega
   ·rw [if_neg h, show (i : Int) + 1 = ((i + 1 : Nat) : Int) by omega, ih k (i + 1) c (by omega) (by omega) (by omega)]
    simp [h]
 unfold aM.f
 rw [show (0 : Int) = ((0 : Nat) : Int) from rfl, key l.length k 0 0 (by omega) hk (by omega)]
 simp
theorem N2 (a : At) (h : fj a = true) (k : Nat) (hk : 65 ≤ k) : bN.f k a.f0 a.f1 = some true := by
 unfold fj at h
 rw [Bool.and_eq_true] at h
 have h0 := qb h.1
 have h1 := qb h.2
 unfold bN.f
 rw [yb a.f0 (by omega) k (by omega), Option.bind_some, if_pos h.1, yb a.f1 (by omega) k (by omega), Option.bind_some, h.2]
theorem IL (s : ByteArray) (h : gg s = true) (k : Nat) (hk : 65 ≤ k) : bx.f k s = some true := by
 unfold bx.f
 by_cases h0 : s.toList = []
 ·rw [if_pos h0]
 ·unfold gg at h
  simp only [h0, decide_false, Bool.false_or] at h
  have h1 := qb h
  rw [if_neg h0, yb s (by omega) k (by omega), Option.bind_some, h]
section
variable (addr : Int) (aff : ByteArray) (sl fr : List Int) (M : List S76)
theorem J4 (hf : ∀ x ∈ fr, 0 ≤ x ∧ x ≤ 63) (hl : fr.length ≤ 1000) : ∀ (d k i : Nat), i + d = fr.length → d < k → ah.l3 k fr (fr.length : Int) (i : Int) = some true := by
 intro d
 induction d with
 | zero =>
  intro k i hi hk
  obtain ⟨k, rfl⟩ : ∃ m, k = m + 1 := ⟨k - 1, by omega⟩
  rw [ah.l3, if_neg (by omega)]
 | succ d ih =>
  intro k i hi hk
  obtain ⟨k, rfl⟩ : ∃ m, k = m + 1 := ⟨k - 1, by omega⟩
  have hil : i < fr.length := by omega
  have hx := hf _ (List.getElem_mem hil)
  rw [ah.l3, if_pos (by omega), if_pos (by omega), if_pos (by omega), zw fr i hil, if_neg (by omega), if_neg (by omega), iC ((i : Int) + 1) (by omega) (by omega), show (i : Int) + 1 = ((i + 1 : Nat) : Int) by omega]
  exact ih k (i + 1) (by omega) (by omega)
theorem J5 (hf : ∀ x ∈ fr, 0 ≤ x ∧ x ≤ 63) (hl : fr.length ≤ 1000) (hsl : sl.length ≤ 1000) (hs : ∀ x ∈ sl, 0 ≤ x ∧ x ≤ (M.length : Int))
  (hc : ∀ (i : Nat) (h : i < sl.length), fr.count (i : Int) = if sl[i] = 0 then 1 else 0) : ∀ (d k i : Nat), i + d = sl.length → 2 * d + fr.length + 10 < k → ah.l2 k sl (sl.length : Int) (i : Int) addr aff sl fr M = some true := by
 intro d
 induction d with
 | zero =>
  intro k i hi hk
  obtain ⟨k, rfl⟩ : ∃ m, k = m + 1 := ⟨k - 1, by omega⟩
  rw [ah.l2, if_neg (by omega)]
  exact J4 fr hf hl fr.length k 0 (by omega) (by omega)
 | succ d ih =>
  intro k i hi hk
  obtain ⟨k, rfl⟩ : ∃ m, k = m + 2 := ⟨k - 2, by omega⟩
  have hil : i < sl.length := by omega
  have hx := hs _ (List.getElem_mem hil)
  have hci := hc i hil
  rw [ah.l2, if_pos (by omega), if_pos (by omega), if_pos (by omega), zw sl i hil, if_neg (by omega), ah.j5, if_neg (by rw [decide_eq_true_eq]; omega), BV fr hl _ k (by omega), iC ((i : Int) + 1) (by omega) (by omega), show (i : Int) + 1 = ((i + 1 : Nat) : Int) by omega, hci]
  have e := ih k (i + 1) (by omega) (by omega)
  by_cases h0 : sl[i] = 0
  ·rw [if_pos h0, if_pos h0, Option.bind_some, if_pos (by rfl)]
   exact e
  ·rw [if_neg h0, if_neg h0, Option.bind_some, if_pos (by rfl)]
   exact e
theorem J6 (i : Nat) (hi : i ≤ M.length) (hM : M.length ≤ 64) (f0 f1 : ByteArray) (hn : ∀ a ∈ M.take i, (a.f0.toList == f0.toList && a.f1.toList == f1.toList) = false) : ∀ (d k q : Nat), q + d = i →
  ah.l1 (k + d + 1) M (M.length : Int) (i : Int) (M.take i) ((M.take i).length : Int) (q : Int) addr aff sl fr M f0 f1 = ah.l0 k M (M.length : Int) ((i + 1 : Nat) : Int) addr aff sl fr M := by
 have hlen : (M.take i).length = i := by rw [List.length_take]; omega
 intro d
 induction d with
 | zero =>
  intro k q hq
  rw [ah.l1, if_neg (by omega), iC ((i : Int) + 1) (by omega) (by omega), show (i : Int) + 1 = ((i + 1 : Nat) : Int) by omega]
 | succ d ih =>
  intro k q hq
  have hqi : q < (M.take i).length := by omega
  have hx := hn _ (List.getElem_mem hqi)
  have e : a9 (M.take i) (q : Int) = (M.take i)[q] := by
   unfold a9
   rw [Int.toNat_natCast, List.getD, List.getElem?_eq_getElem hqi]
   rfl
  rw [show k + (d + 1) + 1 = (k + d + 1) + 1 by omega, ah.l1, if_pos (by omega), if_pos (by omega), if_pos (by omega), e, hx, if_neg (by decide), iC ((q : Int) + 1) (by omega) (by omega), show (q : Int) + 1 = ((q + 1 : Nat) : Int) by omega]
  exact ih k (q + 1) (by omega)
theorem J7 (hf : ∀ x ∈ fr, 0 ≤ x ∧ x ≤ 63) (hl : fr.length ≤ 100) (hsl : sl.length ≤ 100) (hs : ∀ x ∈ sl, 0 ≤ x ∧ x ≤ (M.length : Int))
  (hc : ∀ (i : Nat) (h : i < sl.length), fr.count (i : Int) = if sl[i] = 0 then 1 else 0) (hM : M.length ≤ 64)
  (hm : ∀ (i : Nat) (h : i < M.length), fj ⟨M[i].f0, M[i].f1⟩ = true) (hu : ∀ i, i < M.length → sl.count ((i + 1 : Nat) : Int) ≠ 0)
  (hn : ∀ (i : Nat) (h : i < M.length), ∀ a ∈ M.take i, (a.f0.toList == M[i].f0.toList && a.f1.toList == M[i].f1.toList) = false) : ∀ (d k i : Nat), i + d = M.length → 70 * d + 500 < k → ah.l0 k M (M.length : Int) (i : Int) addr aff sl fr M = some true := by
 intro d
 induction d with
 | zero =>
  intro k i hi hk
  obtain ⟨k, rfl⟩ : ∃ m, k = m + 1 := ⟨k - 1, by omega⟩
  rw [ah.l0, if_neg (by omega)]
  exact J5 addr aff sl fr M hf (by omega) (by omega) hs hc sl.length k 0 (by omega) (by omega)
 | succ d ih =>
  intro k i hi hk
  have hil : i < M.length := by omega
  obtain ⟨k, rfl⟩ : ∃ m, k = (m + i + 1) + 2 := ⟨k - i - 3, by omega⟩
  have e : a9 M (i : Int) = M[i] := by simp [a9, List.getD, hil]
  have hmay := N2 ⟨M[i].f0, M[i].f1⟩ (hm i hil) (k + i + 1 + 1) (by omega)
  have hcz : (((sl.count ((i + 1 : Nat) : Int) : Nat) : Int) == 0) = false := by
   rw [beq_eq_false_iff_ne]
   have := hu i hil
   omega
  rw [ah.l0, if_pos (by omega), if_pos (by omega), if_pos (by omega), e, hmay, Option.bind_some, if_pos rfl, iC ((i : Int) + 1) (by omega) (by omega), show (i : Int) + 1 = ((i + 1 : Nat) : Int) by omega, BV sl (by omega) _ _ (by omega), Option.bind_some, hcz, ah.j2, if_neg (by decide), if_pos (by omega), if_pos (by omega), Option.bind_some, Int.toNat_natCast]
  have e1 := J6 addr aff sl fr M i (by omega) hM M[i].f0 M[i].f1 (hn i hil) i k 0 (by omega)
  rw [show ((0 : Nat) : Int) = 0 from rfl] at e1
  rw [e1]
  exact ih k (i + 1) (by omega) (by omega)
end
theorem xj {l : List Int} {x : Int} (h : x ∈ l) : l.count x ≠ 0 := by
 have := List.count_pos_iff.2 h
 omega
theorem IG {b : Bk} (hk : BkOk b) (hp : RightP b) (hl : b.slots.length = 64) : E3 b true := by
 have hfl := hp.free_len hl
 have hal := hp.na
 have hfree : ∀ (j : Nat) (h : j < b.free.length), (0 ≤ b.free[j] ∧ b.free[j] < 64) ∧ b.free[j] ∉ b.free.take j ∧ b.slots.getD (b.free[j]).toNat 0 = 0 := by
  intro j h
  have hb := hp.fr j h
  unfold jF at hb
  rw [zw b.free j h] at hb
  simp only [Bool.or_eq_false_iff, decide_eq_false_iff_not, bne_eq_false_iff_eq] at hb
  have := hk.f8 _ (List.getElem_mem h)
  exact ⟨⟨by omega, by omega⟩, hb.2.1, hb.2.2⟩
 have hnd : b.free.Nodup := by
  rw [List.Nodup, List.pairwise_iff_getElem]
  intro i j hi hj hij e
  exact (hfree j hj).2.1 (by rw [← e, List.mem_take_iff_getElem]; exact ⟨i, by omega, rfl⟩)
 have Ut : ∀ x ∈ b.free, 0 ≤ x ∧ x ≤ 63 := by
  intro x hx
  obtain ⟨j, hj, rfl⟩ := List.getElem_of_mem hx
  have := (hfree j hj).1
  omega
 have hcount : ∀ (i : Nat) (h : i < b.slots.length), b.free.count (i : Int) = if b.slots[i] = 0 then 1 else 0 := by
  intro i h
  have h01 : b.free.count (i : Int) ≤ 1 := List.nodup_iff_count.1 hnd _
  by_cases h0 : b.slots[i] = 0
  ·rw [if_pos h0]
   by_cases hm : (i : Int) ∈ b.free
   ·have := xj hm
    omega
   ·exfalso
    have hz : (((List.range b.slots.length).filter (fun j => b.slots.getD j 0 == 0)).map (fun j : Nat => (j : Int))).length = b.free.length := by
     rw [List.length_map, ← hp.zc, ← List.countP_eq_length_filter]
     have e : b.slots = (List.range b.slots.length).map (fun j => b.slots.getD j 0) := by
      apply List.ext_getElem
      ·simp
      ·intro q h1 h2
       simp [List.getD, h1]
     conv => rhs; rw [e]
     rw [List.countP_map]
     rfl
    have h2 : ((i : Int) :: b.free).length ≤ (((List.range b.slots.length).filter (fun j => b.slots.getD j 0 == 0)).map (fun j : Nat => (j : Int))).length := by
     refine yR _ _ (List.nodup_cons.2 ⟨hm, hnd⟩) (fun x hx => ?_)
     rcases List.mem_cons.1 hx with rfl | hx
     ·exact List.mem_map.2 ⟨i, List.mem_filter.2 ⟨List.mem_range.2 h, by simp [List.getD, h, h0]⟩, rfl⟩
     ·obtain ⟨j, hj, rfl⟩ := List.getElem_of_mem hx
      have hq := hfree j hj
      exact List.mem_map.2 ⟨(b.free[j]).toNat, List.mem_filter.2 ⟨List.mem_range.2 (by omega), by rw [hq.2.2]; rfl⟩, by omega⟩
    rw [hz, List.length_cons] at h2
    omega
  ·rw [if_neg h0]
   refine List.count_eq_zero.2 (fun hm => h0 ?_)
   obtain ⟨j, hj, e⟩ := List.getElem_of_mem hm
   have hq := (hfree j hj).2.2
   rw [e, Int.toNat_natCast] at hq
   simpa [List.getD, h] using hq
 have hused : ∀ i, i < b.attrs.length → b.slots.count ((i + 1 : Nat) : Int) ≠ 0 := by
  intro i hi
  by_cases hm : ((i + 1 : Nat) : Int) ∈ b.slots
  ·exact xj hm
  ·exfalso
   have h2 : ((i : Int) :: iO (gy b.slots)).length ≤ ((List.range b.attrs.length).map (fun j : Nat => (j : Int))).length := by
    refine yR _ _ (List.nodup_cons.2 ⟨fun hx => hm ?_, yA _ 64⟩) (fun x hx => ?_)
    ·obtain ⟨q, hq, Ls, ht⟩ := qX _ _ _ hx
     unfold gy at ht
     rw [mI _ q Ls, decide_eq_true_eq, List.mem_map] at ht
     obtain ⟨s, hs, he⟩ := ht
     have : s = ((i + 1 : Nat) : Int) := by omega
     exact this ▸ hs
    ·rcases List.mem_cons.1 hx with rfl | hx
     ·exact List.mem_map.2 ⟨i, List.mem_range.2 hi, rfl⟩
     ·obtain ⟨q, rfl, Ls, ht⟩ := qX _ _ _ hx
      unfold gy at ht
      rw [mI _ q Ls, decide_eq_true_eq, List.mem_map] at ht
      obtain ⟨s, hs, he⟩ := ht
      have := hp.sa s hs
      exact List.mem_map.2 ⟨q, List.mem_range.2 (by omega), rfl⟩
   rw [List.length_cons, hp.used, List.length_map, List.length_range] at h2
   omega
 have hML : (b.attrs.map vc).length = b.attrs.length := List.length_map ..
 have hat : ∀ (i : Nat) (h : i < b.attrs.length), iR b.attrs i = b.attrs[i] := by
  intro i h
  simp [iR, dE, List.getD, h]
 refine ⟨6000, ?_⟩
 have h0 := hp.first
 unfold cC at h0
 have hmod : Int.tmod b.addr 64 = 0 := by
  rw [Int.tmod_eq_emod_of_nonneg hk.a0]
  omega
 unfold ah.f
 rw [if_pos hmod, IL b.aff hp.owner 6000 (by omega), Option.bind_some, if_pos rfl, if_neg (by rw [hML]; omega), hl, show (((64 : Nat) : Int) != 64) = false from rfl, ah.j0, if_neg (by decide)]
 refine J7 b.addr b.aff b.slots b.free (b.attrs.map vc) Ut (by omega) (by omega) (fun x hx => ⟨(hk.s8 x hx).1, by rw [hML]; exact hp.sa x hx⟩) hcount (by omega) ?_ ?_ ?_ b.attrs.length 5999 0 (by omega) (by omega)
 ·intro i h
  have h' : i < b.attrs.length := by omega
  have := hp.may i h'
  rw [hat i h'] at this
  simpa [vc] using this
 ·intro i h
  exact hused i (by omega)
 ·intro i h a ha
  have h' : i < b.attrs.length := by omega
  have h3 := hp.nd i h'
  rw [hat i h', List.any_eq_false] at h3
  rw [← List.map_take] at ha
  obtain ⟨c, hc, rfl⟩ := List.mem_map.1 ha
  have h4 := h3 c hc
  rw [Bool.eq_false_iff]
  intro he
  apply h4
  unfold sameAt
  simp only [List.getElem_map, vc, Bool.and_eq_true, beq_iff_eq] at he ⊢
  exact ⟨he.1.symm, he.2.symm⟩
end Go.Proofs.Ytemhalnhbgkbcaa.V
end

section
namespace Go.Proofs.Ytemhalnhbgkbcaa.V
def qv : Nat → Bk → Bk
 | 0, c => c
 | j + 1, c => qv j (if eL c.slots j = true then c else kS c j)
theorem Gy {k : IntKind} {e base : Nat} {ok : Nat → Prop} {W W1 : World} {v : Value} {xs : List Int} (h : Kd.R (Kd.int k) e W base ok v xs) {row : Option Nat} (hg : W.grownBy W1 row) (hne : ∀ q, v.ownBlock = some q → some q ≠ row) : Kd.R (Kd.int k) e W1 base ok v xs := by
 have h1 := Kd.R_flat (ok' := fun q => ok q ∧ some q = v.ownBlock) (fun {_ _ _ _} hx => hx) h (fun q hq ho => ⟨ho, hq.symm⟩)
 exact Kd.R_mono (Kd.R_grown h1 hg (fun q hq => hne q hq.2.symm)) (fun _ hq => hq.1)
theorem Fi (l : List Int) (k : Nat) : eL l k = !decide (l.count ((k + 1 : Nat) : Int) = 0) := by
 unfold eL
 rw [Bool.eq_iff_iff, List.any_eq_true]
 constructor
 ·rintro ⟨s, hs, he⟩
  rw [beq_iff_eq] at he
  subst he
  have := List.count_pos_iff.2 hs
  rw [Bool.not_eq_true', decide_eq_false_iff_not]
  omega
 ·intro h
  simp only [Bool.not_eq_true', decide_eq_false_iff_not] at h
  have : 0 < l.count ((k + 1 : Nat) : Int) := by omega
  exact ⟨_, List.count_pos_iff.1 this, by rw [beq_iff_eq]⟩
theorem Pf {b : Bk} {k : Nat} (h : pI b.slots) : pI (kS b k).slots := by
 intro x hx
 obtain ⟨s, hs, rfl⟩ := List.mem_map.1 hx
 have := h s hs
 unfold mc
 split <;> omega
theorem KG (b : Bk) (k : Nat) (h : k < b.attrs.length) : (kS b k).slots.length = b.slots.length ∧ (kS b k).free = b.free ∧ (kS b k).attrs.length + 1 = b.attrs.length := by
 refine ⟨by simp [kS], rfl, ?_⟩
 show (b.attrs.take k ++ b.attrs.drop (k + 1)).length + 1 = _
 rw [List.length_append, List.length_take, List.length_drop]
 omega
structure DropInv (bn : Bk) (k : Nat) (c : Bk) : Prop where
 eq : qv k c = qv bn.attrs.length bn
 le : k ≤ c.attrs.length
 a64 : c.attrs.length ≤ 64
 l64 : c.slots.length = 64
 s8 : pI c.slots
 fl : c.free.length ≤ 2000
theorem DropInv.ka {bn : Bk} {k : Nat} {c : Bk} (h : DropInv bn (k + 1) c) : k < c.attrs.length := by have := h.le; omega
theorem DropInv.keep {bn : Bk} {k : Nat} {c : Bk} (h : DropInv bn (k + 1) c) (hu : eL c.slots k = true) : DropInv bn k c := by
 refine ⟨?_, by have := h.le; omega, h.a64, h.l64, h.s8, h.fl⟩
 rw [← h.eq]
 show _ = qv k (if eL c.slots k = true then c else kS c k)
 rw [if_pos hu]
theorem DropInv.drop {bn : Bk} {k : Nat} {c : Bk} (h : DropInv bn (k + 1) c) (hu : eL c.slots k = false) : DropInv bn k (kS c k) := by
 obtain ⟨h1, h2, h3⟩ := KG c k h.ka
 refine ⟨?_, by have := h.le; omega, by have := h.a64; omega, by rw [h1]; exact h.l64, Pf h.s8, by rw [h2]; exact h.fl⟩
 rw [← h.eq]
 show _ = qv k (if eL c.slots k = true then c else kS c k)
 rw [if_neg (by rw [hu]; decide)]
theorem Ha (b : Bk) (hl : b.slots.length = 64) (As : Option Addr) (cs : Nat) (hsr : b.slots.length ≤ cs) (k : Nat) (w : World) (hr : Kd.C (Kd.int .i64) w As b.slots.length b.slots) :
  Calls Try.prog 68 #[.slice As b.slots.length cs, .int .i64 (((k + 1 : Nat) : Int))] w fun e w' => e = .returned (.int .i64 ((b.slots.count ((k + 1 : Nat) : Int) : Nat) : Int)) ∧ Below w.heap.size w w' :=
 (aM.calls 100 As cs b.slots _ _ w hr hsr (BV b.slots (by omega) _ 100 (by omega))).mono (by
  rintro e w' ⟨rfl, ⟨nd, rfl⟩⟩
  exact ⟨rfl, ab (Below.refl _ _) nd⟩)
set_option maxHeartbeats 16000000 in
set_option maxRecDepth 100000 in
theorem rY (b : Bk) (hk : BkOk b) (hp : RightP b) (hl : b.slots.length = 64) (l : List Int) (hu : ∀ x ∈ l, 0 ≤ x ∧ x < 4294967296) (hll : l.length ≤ 1000) (Al : Option Addr) (cl : Nat) (v : Value) (w : World) (h : jL w v b) (hC : Kd.C (Kd.int .u32) w Al l.length l) :
  Calls Try.prog 84 #[v, .slice Al l.length cl] w fun e w' => ∃ v' vo, e = .returned (.tuple #[v', vo]) ∧ fw w' w.heap.size v' (qv b.attrs.length (relL b l).1) ∧ Kd.R (Kd.int .u32) 46 w' w.heap.size (fun _ => True) vo (relL b l).2 ∧ Below w.heap.size w w' := by
 obtain ⟨M, JR, Ju, JS, Jx, JT, Jz, rfl, hr⟩ := h
 have hsum := hp.sum_le hk hl
 have hml : M.length = b.attrs.length := by rw [hr.m, List.length_map]
 have hrk := uW hk hp hl l
 have HRK := ak hrk
 have AD := ak hr.m
 have HML := ak hml
 have HR := ak hr
 have HL := ak hl
 have HK := ak hk
 have HU := ak hu
 have HC := ak hC
 have D1 : M.length ≤ 64 := by omega
 have HFL := ak (show b.free.length ≤ 64 by omega)
 have HCP := ak (fun w h => C5 b (by omega) (by omega) M (by omega) JR Ju JS Jx JT Jz w h)
 have an := ak (Below.refl w.heap.size w)
 clear hr hl hml hsum hk hp hu hC hrk
 go_enter Try.func84, Try.ntmps84
 go_wp2_with (first
  | (refine aV rfl 62 (.tmp 0) rfl _ rfl ?_; intro gX W1 J aa I; have cw := ge an J; have aA := ak (an.out.trans (I.mono an.out.size)); have au := ak (aa); clear J aa I an)
  | (refine aH (some 4) rfl rfl 62 rfl dW (fun _ => by kernel_rfl) ?_; intro gZ W2 J aa I; have ct := ge aA J; have aU := ne au J; have aK := mv I aA; have aI := mv I au; have de := ak (aa); clear J aa I aA au)
  | ((with_reducible refine aJ (N := 12) rfl ?_); refine aN rfl 62 (.tmp 2) rfl gX rfl _ _ _ aI.out Try.underlying62 rfl 5 (by kernel_rfl) rfl ?_)
  | (go_at_call 85; refine (HCP.out _ (HR.out.below aK.out)).mono ?_; rintro e W3 ⟨vs, vf, va, rfl, vI, dM, ew, I⟩; obtain ⟨As, cs, rfl⟩ := Kd.R_slice vI; obtain ⟨Aa, ca, rfl⟩ := Kd.R_slice ew; obtain ⟨gs, rfl⟩ := pJ vI (by have h_ := HL.out; omega); have HSP := ak (show vf.ownBlock ≠ some gs from fun e_ => vI.1 gs rfl e_.symm); obtain ⟨Af, cf, rfl⟩ := Kd.R_slice dM; have HSZ := ak aK.out.size; have aT := mv I aK; have aQ := mv I aI; have cD := mv I de; have cH := ak (Kd.R_mono (ok' := fun _ => True) vI (fun _ _ => trivial)); have cW := ak (Kd.R_mono (ok' := fun _ => True) dM (fun _ _ => trivial)); have dT := ak (ew); have dj := ak (I.size); clear vI dM ew I aK aI de)
  | (refine a7 rfl 62 (.tmp 2) (.tmp 13) rfl gX (dH b.addr b.aff (.slice (some ⟨gs, 0, none⟩) b.slots.length cs) (.slice Af b.free.length cf) (.slice Aa M.length ca)) rfl rfl 62 _ aQ.out 5 (by kernel_rfl) rfl rfl (et _ _ rfl rfl rfl) ?_; intro W4 aa J; have bq := gb aT cw J; have bg := ak (aa); have bB := gm cD aU J; have dC := gr cH aQ J; have cU := gr cW aQ J; have dZ := gr dT aQ J; have di := ak (Nat.le_trans dj.out J.size); clear aa J aT aQ cD cH cW dT dj))
 obtain ⟨b1, cI⟩ : ∃ b1, b1 = W2.heap.size := ⟨_, rfl⟩
 rw [← cI] at dC cU dZ di HSZ
 have cG := ak (show w.heap.size ≤ b1 from HSZ.out)
 have wA := cG
 clear cI HSZ
 go_loopw [6, 8, 9, 10, 16, 20] (fun q _ _ _ u _ W => ∃ (k : Nat) (A2 : Option Addr) (c2 : Nat), k ≤ l.length ∧ u = .int .i64 k ∧ Aside0 ((Value.slice A2 (relL b (l.take k)).1.free.length c2).ownBlock ≠ some gs) ∧ Aside0 (aX W gX (dH b.addr b.aff (.slice (some ⟨gs, 0, none⟩) b.slots.length cs) (.slice A2 (relL b (l.take k)).1.free.length c2) (.slice Aa M.length ca)) 62) ∧ Aside0 (Kd.R (Kd.int .i64) 3 W b1 (fun _ => True) (.slice (some ⟨gs, 0, none⟩) b.slots.length cs) (relL b (l.take k)).1.slots) ∧ Aside0 (Kd.R (Kd.int .i64) 3 W b1 (fun _ => True) (.slice A2 (relL b (l.take k)).1.free.length c2) (relL b (l.take k)).1.free) ∧ Aside0 (Kd.R ia 76 W b1 (fun _ => True) (.slice Aa M.length ca) M) ∧ Aside0 (Kd.R (Kd.int .u32) 46 W w.heap.size (fun _ => True) q (relL b (l.take k)).2) ∧ Aside0 (aX W gZ dW 62) ∧ Aside0 (b1 ≤ W.heap.size) ∧ Aside0 (Below w.heap.size w W)) (fun _ _ _ _ u _ _ => l.length - (intOf u).toNat)
 case atStart => exact ⟨0, Af, cf, by omega, rfl, HSP, bg, dC, cU, dZ, ⟨Kd.R_nil _ _ _ _ _⟩, bB, di, bq⟩
 case round =>
  clear HSP bq bg bB dC cU dZ di
  obtain ⟨k, A2, c2, hk, rfl, HSP, aZ, bl, bU, cb, b9, bT, jt, an⟩ := hrel
  obtain ⟨W, rfl⟩ : ∃ W : World, W = wr := ⟨_, rfl⟩
  have hro := HRK.out k hk
  by_cases hkn : k < l.length
  ·have hkb : decide ((k : Int) < (l.length : Int)) = true := by simp; omega
   obtain ⟨ad, eA, hx⟩ := Kd.at_int (Kd.C_below HC.out an.out) k (by omega) (by omega)
   cases eA
   rw [Int.toNat_natCast] at hx
   have p1 : ((k : Int) < (l.length : Int)) = True := eq_true (by omega)
   have hrd : rd l k = l[k] := by simp [rd, List.getD, hkn]
   have kE := HU.out _ (List.getElem_mem hkn)
   obtain ⟨x, hxx⟩ : ∃ x, l[k] = x := ⟨_, rfl⟩
   rw [hxx] at hrd kE
   rw [hrd] at hx
   have hsu := Ch b l k hkn x hxx
   obtain ⟨rs, hrs⟩ : ∃ rs, rs = relL b (l.take k) := ⟨_, rfl⟩
   rw [← hrs] at hro hsu aZ bl bU b9 HSP
   have hol := hro.ol
   have hfl := hro.fl
   have had := hro.addr
   have haf := hro.aff
   have hof := fun A c A' c' A2 c2 w h => rK rs.1 hro.l64 hro.s8 (by rw [hro.attrs]; exact hro.le) M A A' A2 c c' c2 w h x kE.1 kE.2
   have hmm : M = rs.1.attrs.map vc := by rw [hro.attrs]; exact AD.out
   have HSU := ak hsu
   have HLM := ak hro.l64
   obtain ⟨bm, oo⟩ := rs
   simp only at hol hfl hof aZ bl bU b9 HSP HLM hmm had haf
   have hln : b.slots.length = bm.slots.length := by rw [HLM.out, HL.out]
   rw [← had, ← haf, hln] at aZ
   rw [hln] at bl
   obtain ⟨Ao, co, rfl⟩ := Kd.R_slice b9.out
   have HOF := ak hof
   have HMM := ak hmm
   have HOL := ak (show oo.length ≤ 1000 by omega)
   have HFLN := ak (show bm.free.length ≤ 2000 by have := HFL.out; omega)
   have HLN := ak hln
   have HAD := ak (show bm.addr = b.addr from had)
   have HAF := ak (show bm.aff = b.aff from haf)
   clear hro hrs hrd hxx hsu hol hfl hof hmm had haf hln
   cases hh : ku bm x with
   | false =>
    have HH := ak hh
    have HEQ := ak (show relL b (l.take (k + 1)) = (bm, oo) by rw [HSU.out]; unfold relF; rw [if_neg (by rw [hh]; decide)])
    clear hh
    go_wp2_with (first
     | ((with_reducible refine aJ (N := 21) rfl ?_); refine aN rfl 62 (.tmp 2) rfl gX rfl _ _ _ aZ.out Try.underlying62 rfl 5 (by kernel_rfl) rfl ?_)
     | (go_at_call 62; refine (HOF.out _ _ _ _ _ _ _ (jL.of HMM.out bl.out bU.out cb.out)).mono ?_; rintro e W1 ⟨rfl, I⟩; rw [HH.out]; have au := mv I aZ; have bC := mv I bl; have bJ := mv I bU; have b7 := mv I cb; have dt := mv I b9; have cd := mv I bT; have ll := ak (Nat.le_trans jt.out I.size); have aA := ak (an.out.trans (I.mono an.out.size)); clear I aZ bl bU cb b9 bT jt an)
     | (refine aH (some 9) rfl rfl 76 rfl [.string ⟨#[]⟩, .string ⟨#[]⟩] (fun _ => by kernel_rfl) ?_; intro gV W2 J aa I; have dQ := ge aA J; have fL := ne au J; have kU := ne cd J; have aI := mv I au; have b4 := mv I bC; have ch := mv I bJ; have dm := ak (Kd.R_mono (ok' := fun k_ => k_ ≠ gV) (Kd.R_below (Kd.R_bound b7.out) I) (fun k_ dS e_ => by have h_ := dS.2.2.1; omega)); have dv := mv I dt; have de := mv I cd; have dk := ak (Nat.le_trans ll.out I.size); have aK := mv I aA; have eC := ak (aa); clear J aa I au bC bJ b7 dt cd ll aA)
     | (refine a7 rfl 76 (.tmp 9) (.tmp 24) rfl gV [.string (ov bm x).f0, .string (ov bm x).f1] rfl rfl 76 _ eC.out 2 (by kernel_rfl) rfl rfl (j6 (ov bm x)) ?_; intro W3 aa J; have aQ := gx aI eC J; have cH := gr b4 eC J; have cW := gr ch eC J; have dT := ak (Kd.R_mono (ok' := fun _ => True) (Kd.R_grown dm.out J (fun k_ dS e_ => dS (Option.some.inj e_))) (fun _ _ => trivial)); have eS := gr dv eC J; have cD := gx de eC J; have dj := ak (Nat.le_trans dk.out J.size); have aT := gb aK dQ J; have ql := ak (aa); clear aa J aI b4 ch dm dv de dk aK eC))
    go_roundw
    case rel => exact ⟨k + 1, A2, c2, by omega, by go_num, ⟨by rw [HEQ.out]; exact HSP.out⟩, ⟨by rw [HEQ.out, ← HAD.out, ← HAF.out, HLN.out]; exact aQ.out⟩, ⟨by rw [HEQ.out, HLN.out]; exact cH.out⟩, ⟨by rw [HEQ.out]; exact cW.out⟩, dT, ⟨by rw [HEQ.out]; exact eS.out⟩, cD, dj, aT⟩
    case measure => simp [intOf]; omega
   | true =>
    have HH := ak hh
    obtain ⟨Y9, Y8, qQ, _⟩ := xz hh
    obtain ⟨j, hj⟩ : ∃ j : Nat, x - bm.addr = (j : Int) := ⟨(x - bm.addr).toNat, by omega⟩
    have HEQ := ak (show relL b (l.take (k + 1)) = (⟨bm.addr, bm.aff, bm.slots.set j 0, bm.free ++ [(j : Int)], bm.attrs⟩, oo ++ [x]) by
     rw [HSU.out]
     unfold relF
     rw [if_pos hh]
     show (_, _) = (_, _)
     rw [hj]
     rfl)
    have hjm : x % 64 = (j : Int) := by unfold cC at qQ; omega
    have hjt : x.tmod 64 = (j : Int) := by rw [Int.tmod_eq_emod_of_nonneg kE.1]; exact hjm
    have sD : j < 64 := by omega
    have HJ := ak (show j < bm.slots.length by rw [HLM.out]; exact sD)
    have pj : ((j : Int) < (bm.slots.length : Int)) = True := eq_true (by have := HJ.out; omega)
    have yV : gX ≠ gs := fun e_ => (aZ.out.ne_row bl.out (by decide)) (by rw [e_]; rfl)
    have Hh : gs ≠ gX := fun e_ => yV e_.symm
    have HGS := ak (show gs < W.heap.size from Kd.R_lt bl.out gs rfl)
    obtain ⟨fr, hfr⟩ : ∃ fr, fr = bm.free ++ [(j : Int)] := ⟨_, rfl⟩
    obtain ⟨o1, fT⟩ : ∃ o1, o1 = oo ++ [x] := ⟨_, rfl⟩
    rw [← hfr, ← fT] at HEQ
    have HFR := ak hfr
    have mZ := ak fT
    clear hh Y9 Y8 qQ hj hfr fT
    go_wp2_with (first
     | ((with_reducible refine aJ (N := 21) rfl ?_); refine aN rfl 62 (.tmp 2) rfl gX rfl _ _ _ aZ.out Try.underlying62 rfl 5 (by kernel_rfl) rfl ?_)
     | (go_at_call 62; refine (HOF.out _ _ _ _ _ _ _ (jL.of HMM.out bl.out bU.out cb.out)).mono ?_; rintro e W1 ⟨rfl, I⟩; rw [HH.out]; have au := mv I aZ; have bC := mv I bl; have bJ := mv I bU; have b7 := mv I cb; have dt := mv I b9; have cd := mv I bT; have ll := ak (Nat.le_trans jt.out I.size); have aA := ak (an.out.trans (I.mono an.out.size)); clear I aZ bl bU cb b9 bT jt an)
     | (refine aH (some 9) rfl rfl 76 rfl [.string ⟨#[]⟩, .string ⟨#[]⟩] (fun _ => by kernel_rfl) ?_; intro gV W2 J aa I; have dQ := ge aA J; have fL := ne au J; have kU := ne cd J; have aI := mv I au; have b4 := mv I bC; have ch := mv I bJ; have dm := ak (Kd.R_mono (ok' := fun k_ => k_ ≠ gV) (Kd.R_below (Kd.R_bound b7.out) I) (fun k_ dS e_ => by have h_ := dS.2.2.1; omega)); have dv := mv I dt; have de := mv I cd; have dk := ak (Nat.le_trans ll.out I.size); have aK := mv I aA; have eC := ak (aa); clear J aa I au bC bJ b7 dt cd ll aA)
     | (refine a7 rfl 76 (.tmp 9) (.tmp 24) rfl gV [.string (ov bm x).f0, .string (ov bm x).f1] rfl rfl 76 _ eC.out 2 (by kernel_rfl) rfl rfl (j6 (ov bm x)) ?_; intro W3 aa J; have aQ := gx aI eC J; have cH := gr b4 eC J; have cW := gr ch eC J; have dT := ak (Kd.R_mono (ok' := fun _ => True) (Kd.R_grown dm.out J (fun k_ dS e_ => dS (Option.some.inj e_))) (fun _ _ => trivial)); have eS := gr dv eC J; have cD := gx de eC J; have dj := ak (Nat.le_trans dk.out J.size); have aT := gb aK dQ J; have ql := ak (aa); have kR := aQ.out.cell 2 _ rfl; have qf := aQ.out.cell 3 _ rfl; have sy := (mK cH.out j HJ.out).1; have wa := (mK cH.out j HJ.out).2; clear aa J aI b4 ch dm dv de dk aK eC)
     | ((with_reducible refine cy (b := .append) (xs := #[.tmp 33, .tmp 37]) rfl ?_); at_builtin; generalize cr : W3.setCell ⟨gs, j, none⟩ (.int .i64 0) = W4; have ox : W3.heap.size = W4.heap.size := (by rw [← cr]; simp [World.setCell]); have J : W3.grownBy W4 (some gs) := (by rw [← cr]; exact (oA cH.out j HJ.out 0).2); have bg := ak (aQ.out.grown J (aQ.out.ne_row cH.out (by decide))); have dC := ak ((oA cH.out j HJ.out 0).1); have cU := ak (Gy cW.out J (fun q_ fM e_ => HSP.out (by rw [fM, e_]))); have dZ := ak (Kd.R_over dT.out cH.out (by decide) J); have nC := ak (Kd.R_over eS.out cH.out (by decide) J); have bB := ak (cD.out.grown J (cD.out.ne_row cH.out (by decide))); have di := ak (Nat.le_trans dj.out J.size); have bq := ak (aT.out.grown J aT.out.size (by intro k hk; cases hk; exact Nat.le_trans wA.out (Kd.R_base cH.out gs rfl))); rw [cr] at dC; clear cr J aQ cH cW dT eS cD dj aT kR qf sy wa; have tX := ak (show bm.slots.length = (bm.slots.set j 0).length by rw [List.length_set]); have UT := ak (show gs < W4.heap.size from Kd.R_lt dC.out gs rfl); refine Kd.R_append (Kd.int .i64) (w0 := W4) b1 rfl (.tmp 33) (.tmp 37) 31 3 (.int .i64 0) 8 rfl Try.underlying31 xp rfl (by decide) (by omega) _ bm.free (j : Int) [.int .i64 (j : Int)] (fun _ => True) (fun _ => False) rfl (congrArg (fun n_ => Value.slice (some ⟨n_, 0, none⟩) 1 1) ox) rfl (fun _ hk => hk.elim) (fun _ _ => trivial) cU.out (Below.refl _ _) di.out (by have := HFLN.out; omega) ?_; intro v_ W5 bc I J gp; rw [← HFR.out] at bc; have UN := ak (show v_.ownBlock ≠ some gs from fun e_ => by rcases gp with h_ | ⟨b_, h_, Gc⟩; (· exact HSP.out (h_.symm.trans e_)); (· have e2_ := Option.some.inj (h_.symm.trans e_); have Lt := UT.out; omega)); have bz := ak (bg.out.grown J (bg.out.ne_row cU.out (by decide))); have dG := ak (Gy dC.out J (fun q_ fM e_ => HSP.out (e_.symm.trans fM.symm))); have cQ := ak (bc); have dw := ak (Kd.R_over dZ.out cU.out (by decide) J); have rh := ak (Kd.R_over nC.out cU.out (by decide) J); have bY := ak (bB.out.grown J (bB.out.ne_row cU.out (by decide))); have dY := ak (Nat.le_trans di.out J.size); have bE := ak (bq.out.trans (I.mono cG.out)); obtain ⟨AF, cF, rfl⟩ := Kd.R_slice bc; have Sm := bz.out.cell 3 _ rfl; have Sl := bz.out.frozen 3; clear bc I J gp ox bg dC cU dZ nC bB di bq)
     | ((with_reducible refine cy (b := .append) (xs := #[.tmp 40, .tmp 42]) rfl ?_); at_builtin; generalize cr : W5.setCell ⟨gX, 3, none⟩ (.slice AF fr.length cF) = W6; have ox : W5.heap.size = W6.heap.size := (by rw [← cr]; simp [World.setCell]); have J : W5.grownBy W6 (some gX) := (by rw [← cr]; exact bP _ _ _ _); have bH := ak (bz.out.set 3 (.slice AF fr.length cF)); have dN := gr dG bz J; have dD := gr cQ bz J; have ez := gr dw bz J; have od := gr rh bz J; have cn := gm bY aU J; have du := ak (Nat.le_trans dY.out J.size); have bZ := gb bE cw J; rw [cr] at bH; clear cr J bz dG cQ dw rh bY dY bE Sm Sl; refine Kd.R_append (Kd.int .u32) (w0 := w) w.heap.size rfl (.tmp 40) (.tmp 42) 77 46 (.int .u32 0) 4 rfl Try.underlying77 ko rfl (by decide) (by omega) _ oo x [.int .u32 x] (fun _ => True) (fun _ => False) rfl (congrArg (fun n_ => Value.slice (some ⟨n_, 0, none⟩) 1 1) ox) rfl (fun _ hk => hk.elim) (fun _ _ => trivial) od.out bZ.out bZ.out.size (by have := HOL.out; omega) ?_; intro v_ W7 bc I J gp; rw [← mZ.out] at bc; have dP := ak (bH.out.grown J (bH.out.ne_row od.out (by decide))); have gq := ak (Kd.R_over dN.out od.out (by decide) J); have fA := ak (Kd.R_over dD.out od.out (by decide) J); have ju := ak (Kd.R_over ez.out od.out (by decide) J); have kX := ak (bc); have ep := ak (cn.out.grown J (cn.out.ne_row od.out (by decide))); have iY := ak (Nat.le_trans du.out J.size); have eH := ak (I); obtain ⟨AO, cO, rfl⟩ := Kd.R_slice bc; clear bc I J gp ox bH dN dD ez od cn du bZ))
    go_roundw
    case rel => exact ⟨k + 1, AF, cF, by omega, by go_num, ⟨by rw [HEQ.out]; exact UN.out⟩, ⟨by rw [HEQ.out, ← HAD.out, ← HAF.out, HLN.out]; exact dP.out⟩, ⟨by rw [HEQ.out, HLN.out]; exact gq.out⟩, ⟨by rw [HEQ.out]; exact fA.out⟩, ju, ⟨by rw [HEQ.out]; exact kX.out⟩, ep, iY, eH⟩
    case measure => simp [intOf]; omega
  ·obtain rfl : k = l.length := by omega
   have hkb : decide ((l.length : Int) < (l.length : Int)) = false := by simp
   rw [List.take_of_length_le (Nat.le_refl l.length)] at hro aZ bl bU b9
   obtain ⟨bn, hbn⟩ : ∃ bn, bn = (relL b l).1 := ⟨_, rfl⟩
   obtain ⟨on, hon⟩ : ∃ on, on = (relL b l).2 := ⟨_, rfl⟩
   have HBN := ak hbn
   have HON := ak hon
   rw [← hbn] at aZ bl bU
   rw [← hon] at b9
   obtain ⟨Ao, co, rfl⟩ := Kd.R_slice b9.out
   have HMA := ak (show M = bn.attrs.map vc by rw [hbn, hro.attrs]; exact AD.out)
   have K0 := ak (show M.length = bn.attrs.length by rw [HMA.out, List.length_map])
   have had : b.addr = bn.addr := by rw [hbn, hro.addr]
   have haf : b.aff = bn.aff := by rw [hbn, hro.aff]
   have hln : b.slots.length = bn.slots.length := by rw [hbn, hro.l64, HL.out]
   have T8 := ak (show DropInv bn bn.attrs.length bn from ⟨rfl, Nat.le_refl _, by rw [← K0.out]; exact D1, by rw [hbn]; exact hro.l64, by rw [hbn]; exact hro.s8, by have := HFL.out; have h_ := hro.fl; rw [← hbn] at h_; omega⟩)
   rw [had, haf, hln] at aZ
   rw [hln] at bl
   obtain ⟨Mn, hMn⟩ : ∃ Mn, Mn = M.length := ⟨_, rfl⟩
   have HMN := ak hMn
   have QP : Mn ≤ 64 := by omega
   have pA := aZ.out.cell 4 _ rfl
   have HXN := ak (show RX W w.heap.size gX bn from ⟨M, _, _, _, HMA.out, aZ.out, Kd.R_lower bl.out cG.out, Kd.R_lower bU.out cG.out, Kd.R_lower cb.out cG.out⟩)
   rw [← hMn] at pA
   clear hbn hon hro had haf hln aZ bl bU cb jt hMn D1
   go_wp2_with fail
   go_loopw [11] (fun u W => ∃ (z : Int) (k : Nat) (bm : Bk), u = .int .i64 z ∧ z = (k : Int) - 1 ∧ k ≤ 64 ∧ Aside0 (DropInv bn k bm) ∧ Aside0 (RX W w.heap.size gX bm) ∧ Aside0 (Kd.R (Kd.int .u32) 46 W w.heap.size (fun _ => True) (.slice Ao on.length co) on) ∧ Aside0 (aX W gZ dW 62) ∧ Aside0 (Below w.heap.size w W)) (fun u _ => (intOf u + 1).toNat)
   case atStart => exact ⟨_, Mn, bn, rfl, rfl, QP, ⟨by rw [HMN.out, K0.out]; exact T8.out⟩, HXN, b9, bT, an⟩
   case round =>
    clear HXN b9 bT an T8 pA HMN QP
    obtain ⟨z, k, bm, rfl, hz, ag8, HDI, aZ, b9, bT, an⟩ := hrel
    obtain ⟨W, rfl⟩ : ∃ W : World, W = wr := ⟨_, rfl⟩
    obtain ⟨M2, vs, vf, va, sB, hx, hs, hf, ha⟩ := aZ.out
    obtain ⟨As, cs, rfl, lS, cS⟩ := Kd.R_reads hs
    obtain ⟨Af, cf, rfl⟩ := Kd.R_slice hf
    obtain ⟨Aa, ca, rfl⟩ := Kd.R_slice ha
    have gD := ak hx
    have xJ := ak hs
    have lO := ak hf
    have xU := ak ha
    have yL := ak cS
    have CG := ak sB
    have kR := hx.cell 2 _ rfl
    clear sB hx hs hf ha cS aZ
    rcases k with _ | k
    ·obtain rfl : z = -1 := by omega
     have hkb : decide ((0 : Int) ≤ -1) = false := by decide
     clear hz
     have HE := ak (show qv b.attrs.length (relL b l).1 = bm by have h_ := HDI.out.eq; rw [← HBN.out, ← HML.out, K0.out, ← h_]; rfl)
     go_wp2_with (first
      | ((with_reducible refine aJ (N := 62) rfl ?_); refine aN rfl 62 (.tmp 2) rfl gX rfl _ _ _ gD.out Try.underlying62 rfl 5 (by kernel_rfl) rfl ?_)
      | (refine a7 rfl 62 (.tmp 4) (.tmp 62) rfl gZ (dH bm.addr bm.aff (.slice As bm.slots.length cs) (.slice Af bm.free.length cf) (.slice Aa M2.length ca)) rfl rfl 62 _ bT.out 5 (by kernel_rfl) rfl rfl (et _ _ rfl rfl rfl) ?_; intro W1 aa J; have au := gn gD aU J; have bC := gr xJ bT J; have bJ := gr lO bT J; have b7 := gr xU bT J; have dt := gr b9 bT J; have cd := ak (aa); have aA := gb an ct J; clear aa J gD xJ lO xU b9 bT an kR))
     refine bodyPost_ret (gB rfl _ _ gZ 62 _ (0, 0) _ rfl cd.out Try.underlying62 rfl (by kernel_rfl)) rfl ⟨_, _, rfl, ?_, by rw [← HON.out]; exact dt.out, aA.out⟩
     rw [HE.out]
     exact ⟨_, _, _, rfl, bC.out, bJ.out, by rw [← CG.out]; exact b7.out⟩
    ·obtain rfl : z = (k : Int) := by omega
     have hkb : decide ((0 : Int) ≤ (k : Int)) = true := by simp
     clear hz
     have hdi := HDI.out
     obtain ⟨c, hc⟩ : ∃ c, c = bm.slots.count ((k + 1 : Nat) : Int) := ⟨_, rfl⟩
     have HCT := ak (fun w h => Ha bm hdi.l64 As cs lS k w h)
     rw [← hc] at HCT
     have HUC := ak (show eL bm.slots k = !decide (c = 0) by rw [hc]; exact Fi _ _)
     have HC := ak (show c ≤ 64 by rw [hc]; have := List.count_le_length (a := ((k + 1 : Nat) : Int)) (l := bm.slots); have h_ := hdi.l64; omega)
     clear hc lS
     by_cases jC : c = 0
     ·have hcb : decide ((c : Int) = 0) = true := by subst jC; rfl
      have HU := ak (show eL bm.slots k = false by rw [HUC.out, jC]; rfl)
      have HDR := ak (fun v w h => KI bm hdi.l64 hdi.s8 (by have := hdi.fl; omega) (by have := hdi.a64; omega) k hdi.ka v w h)
      have HDN := ak (show DropInv bn k (kS bm k) from hdi.drop HU.out)
      clear hdi
      go_wp2_with (first
       | (go_at_call 68; refine (HCT.out _ yL.out).mono ?_; rintro e W1 ⟨rfl, I⟩; have au := mv I gD; have bC := mv I xJ; have bJ := mv I lO; have b7 := mv I xU; have dt := mv I b9; have cd := mv I bT; have aA := ak (an.out.trans (I.mono an.out.size)); clear I gD xJ lO xU b9 bT an kR)
       | ((with_reducible refine aJ (N := 59) rfl ?_); refine aN rfl 62 (.tmp 2) rfl gX rfl _ _ _ au.out Try.underlying62 rfl 5 (by kernel_rfl) rfl ?_)
       | (go_at_call 108; refine (HDR.out _ _ ⟨M2, As, cs, Af, cf, Aa, ca, rfl, jL.of CG.out bC.out bJ.out b7.out⟩).mono ?_; rintro e W2 ⟨v9, rfl, fS, I⟩; have HSZ := ak aA.out.size; obtain ⟨nb, hnb⟩ : ∃ nb, nb = kS bm k := ⟨_, rfl⟩; rw [← hnb] at fS; have HNB := ak hnb; obtain ⟨wZ, sZ, ta, rfl, ie, fP, fi⟩ := fS; obtain ⟨A7, c7, rfl⟩ := Kd.R_slice ie; obtain ⟨A8, c8, rfl⟩ := Kd.R_slice fP; obtain ⟨NM, hNM⟩ : ∃ NM, NM = nb.attrs.map vc := ⟨_, rfl⟩; rw [← hNM] at fi; have HNM := ak hNM; obtain ⟨A9, c9, rfl⟩ := Kd.R_slice fi; have aI := mv I au; have b4 := ak (Kd.R_lower ie HSZ.out); have ch := ak (Kd.R_lower fP HSZ.out); have dm := ak (Kd.R_lower fi HSZ.out); have dv := mv I dt; have de := mv I cd; have aK := mv I aA; clear hNM hnb ie fP fi I au bC bJ b7 dt cd aA)
       | (refine a7 rfl 62 (.tmp 2) (.tmp 61) rfl gX (dH nb.addr nb.aff (.slice A7 nb.slots.length c7) (.slice A8 nb.free.length c8) (.slice A9 NM.length c9)) rfl rfl 62 _ aI.out 5 (by kernel_rfl) rfl rfl (et _ _ rfl rfl rfl) ?_; intro W3 aa J; have aQ := ak (aa); have cH := gr b4 aI J; have cW := gr ch aI J; have dT := gr dm aI J; have eS := gr dv aI J; have cD := gm de aU J; have aT := gb aK cw J; clear aa J aI b4 ch dm dv de aK))
      go_roundw
      case rel => exact ⟨_, k, nb, rfl, rfl, by omega, ⟨by rw [HNB.out]; exact HDN.out⟩, ⟨NM, _, _, _, HNM.out, aQ.out, cH.out, cW.out, dT.out⟩, eS, cD, aT⟩
      case measure => simp [intOf] <;> omega
     ·have hcb : decide ((c : Int) = 0) = false := by simp; omega
      have HDN := ak (show DropInv bn k bm from hdi.keep (by rw [HUC.out]; simp [jC]))
      clear hdi
      go_wp2_with (first
       | (go_at_call 68; refine (HCT.out _ yL.out).mono ?_; rintro e W1 ⟨rfl, I⟩; have au := mv I gD; have bC := mv I xJ; have bJ := mv I lO; have b7 := mv I xU; have dt := mv I b9; have cd := mv I bT; have aA := ak (an.out.trans (I.mono an.out.size)); clear I gD xJ lO xU b9 bT an kR))
      go_roundw
      case rel => exact ⟨_, k, bm, rfl, rfl, by omega, HDN, ⟨M2, _, _, _, CG.out, au.out, bC.out, bJ.out, b7.out⟩, dt, cd, aA⟩
      case measure => simp [intOf] <;> omega
end Go.Proofs.Ytemhalnhbgkbcaa.V
end

section
namespace Go.Proofs.Ytemhalnhbgkbcaa.V
def pG (h n : ByteArray) (a : At) : Bool := (h.toList == (⟨#[]⟩ : ByteArray).toList || a.f0.toList == h.toList) && (n.toList == (⟨#[]⟩ : ByteArray).toList || a.f1.toList == n.toList)
theorem Js {l : List UInt8} (e : (l == (⟨#[]⟩ : ByteArray).toList) = true) : (l == []) = true ∧ l.isEmpty = true ∧ (l = []) = True := by
 have h : l = [] := by simpa using e
 subst h
 exact ⟨rfl, rfl, eq_true rfl⟩
theorem Cy {l : List UInt8} (e : (l == (⟨#[]⟩ : ByteArray).toList) = false) : (l == []) = false ∧ l.isEmpty = false ∧ (l = []) = False := by
 have h : l ≠ [] := by
  rintro rfl
  simp at e
 refine ⟨by simpa using h, by simpa using h, eq_false h⟩
theorem Jo {l m : List UInt8} (e : (l == m) = true) : (l = m) = True := eq_true (by simpa using e)
theorem QU {l m : List UInt8} (e : (l == m) = false) : (l = m) = False := eq_false (by simpa using e)
theorem Qi {h n : ByteArray} {x : At} (e : pG h n x = true) : ((h.toList == (⟨#[]⟩ : ByteArray).toList) = true ∧ (n.toList == (⟨#[]⟩ : ByteArray).toList) = true) ∨ ((h.toList == (⟨#[]⟩ : ByteArray).toList) = false ∧ (x.f0.toList == h.toList) = true ∧ (n.toList == (⟨#[]⟩ : ByteArray).toList) = true) ∨ ((h.toList == (⟨#[]⟩ : ByteArray).toList) = true ∧ (n.toList == (⟨#[]⟩ : ByteArray).toList) = false ∧ (x.f1.toList == n.toList) = true) ∨ ((h.toList == (⟨#[]⟩ : ByteArray).toList) = false ∧ (x.f0.toList == h.toList) = true ∧ (n.toList == (⟨#[]⟩ : ByteArray).toList) = false ∧ (x.f1.toList == n.toList) = true) := by
 unfold pG at e
 cases h1 : (h.toList == (⟨#[]⟩ : ByteArray).toList) <;> cases h2 : (x.f0.toList == h.toList) <;> cases h3 : (n.toList == (⟨#[]⟩ : ByteArray).toList) <;> cases h4 : (x.f1.toList == n.toList) <;> simp_all
theorem Sf {h n : ByteArray} {x : At} (e : pG h n x = false) : ((h.toList == (⟨#[]⟩ : ByteArray).toList) = false ∧ (x.f0.toList == h.toList) = false) ∨ ((h.toList == (⟨#[]⟩ : ByteArray).toList) = true ∧ (n.toList == (⟨#[]⟩ : ByteArray).toList) = false ∧ (x.f1.toList == n.toList) = false) ∨ ((h.toList == (⟨#[]⟩ : ByteArray).toList) = false ∧ (x.f0.toList == h.toList) = true ∧ (n.toList == (⟨#[]⟩ : ByteArray).toList) = false ∧ (x.f1.toList == n.toList) = false) := by
 unfold pG at e
 cases h1 : (h.toList == (⟨#[]⟩ : ByteArray).toList) <;> cases h2 : (x.f0.toList == h.toList) <;> cases h3 : (n.toList == (⟨#[]⟩ : ByteArray).toList) <;> cases h4 : (x.f1.toList == n.toList) <;> simp_all
theorem QB {b : Bk} (hf : cC b.addr = b.addr) (k : Nat) (hk : k < 64) : ku b (b.addr + (k : Int)) = (b.slots.getD k 0 != 0) ∧ ov b (b.addr + (k : Int)) = if (b.slots.getD k 0 != 0) = true then mu b k else ⟨⟨#[]⟩, ⟨#[]⟩⟩ := by
 have e : b.addr + (k : Int) - b.addr = (k : Int) := by omega
 have h1 : cC (b.addr + (k : Int)) = b.addr := by unfold cC at hf ⊢; omega
 have h2 : ku b (b.addr + (k : Int)) = (b.slots.getD k 0 != 0) := by
  unfold ku
  rw [decide_eq_true h1, e, Int.toNat_natCast, Bool.true_and]
 refine ⟨h2, ?_⟩
 unfold ov
 rw [h2, e, Int.toNat_natCast]
set_option maxHeartbeats 16000000 in
set_option maxRecDepth 100000 in
theorem zu (b : Bk) (hk : BkOk b) (hp : RightP b) (hl : b.slots.length = 64) (h n : ByteArray) (v : Value) (w : World) (hV : jL w v b) :
  Calls Try.prog 63 #[v, .string h, .string n] w fun e w' => ∃ vo, e = .returned vo ∧ Kd.R (Kd.int .u32) 46 w' w.heap.size (fun _ => True) vo (fb b (pG h n) 64) ∧ Below w.heap.size w w' := by
 obtain ⟨M, As, cs, Af, cf, Aa, ca, rfl, hr⟩ := hV
 have hml : M.length = b.attrs.length := by rw [hr.m, List.length_map]
 have AD := ak hr.m
 have HR := ak hr
 have HL := ak hl
 have HK := ak hk
 have HP := ak hp
 have HOF := ak (fun w h x h0 h1 => rK b hl hk.s8 hp.sa M As Af Aa cs cf ca w h x h0 h1)
 have an := ak (Below.refl w.heap.size w)
 have Ek : 0 ≤ b.addr := hk.a0
 have my : b.addr + 64 ≤ 4294967296 := by
  have h1 := hp.first
  have h2 := hk.a1
  unfold cC at h1
  omega
 clear hr hl hml hp hk
 go_enter Try.func63, Try.ntmps63
 go_wp2_with (first
  | (refine aV rfl 62 (.tmp 0) rfl _ rfl ?_; intro gX W1 J aa I; have cw := ge an J; have aA := ak (an.out.trans (I.mono an.out.size)); have au := ak (aa); clear J aa I an))
 go_loopw [7, 8, 9, 10] (fun q i _ _ W => ∃ k : Nat, k ≤ 64 ∧ i = .int .i64 k ∧ Aside0 (aX W gX (dH b.addr b.aff (.slice As b.slots.length cs) (.slice Af b.free.length cf) (.slice Aa M.length ca)) 62) ∧ Aside0 (Kd.R (Kd.int .u32) 46 W w.heap.size (fun _ => True) q (fb b (pG h n) k)) ∧ Aside0 (Below w.heap.size w W)) (fun _ i _ _ _ => 64 - (intOf i).toNat)
 case atStart => exact ⟨0, by omega, rfl, au, ⟨Kd.R_nil _ _ _ _ _⟩, aA⟩
 case round =>
  clear aA au
  obtain ⟨k, hk, rfl, aZ, b9, an⟩ := hrel
  obtain ⟨W, rfl⟩ : ∃ W : World, W = wr := ⟨_, rfl⟩
  have hul := km b (pG h n) k
  have mP := aZ.out.cell 0 _ rfl
  by_cases p8 : k < 64
  ·have hkb : decide ((k : Int) < 64) = true := by simp; omega
   have hus := ux b (pG h n) k
   obtain ⟨oo, hoo⟩ : ∃ oo, oo = fb b (pG h n) k := ⟨_, rfl⟩
   rw [← hoo] at b9 hus hul
   have HUL := ak (show oo.length ≤ 100 by omega)
   obtain ⟨Lo, F6⟩ := QB HP.out.first k p8
   have hof := fun w h => HOF.out w h (b.addr + (k : Int)) (by omega) (by omega)
   rw [Lo, F6] at hof
   obtain ⟨Ao, co, rfl⟩ := Kd.R_slice b9.out
   obtain ⟨hb, hhb⟩ : ∃ hb, hb = (b.slots.getD k 0 != 0) := ⟨_, rfl⟩
   rw [← hhb] at hof hus
   cases hb with
   | false =>
    rw [if_neg (by decide)] at hof
    have HUS := ak (show fb b (pG h n) (k + 1) = oo by rw [hus]; simp)
    have wq := ak hof
    clear hus hof hhb hoo hul Lo F6
    go_wp2_with (first
     | ((with_reducible refine aJ (N := 16) rfl ?_); refine aN rfl 62 (.tmp 3) rfl gX rfl _ _ _ aZ.out Try.underlying62 rfl 5 (by kernel_rfl) rfl ?_)
     | (go_at_call 62; refine (wq.out _ (HR.out.below an.out)).mono ?_; rintro e W1 ⟨rfl, I⟩; have au := mv I aZ; have dt := mv I b9; have aA := ak (an.out.trans (I.mono an.out.size)); clear I aZ b9 an mP)
     | (refine aH (some 9) rfl rfl 76 rfl [.string ⟨#[]⟩, .string ⟨#[]⟩] (fun _ => by kernel_rfl) ?_; intro gV W2 J aa I; have dQ := ge aA J; have fL := ne au J; have aI := mv I au; have dv := mv I dt; have aK := mv I aA; have eC := ak (aa); clear J aa I au dt aA)
     | (refine a7 rfl 76 (.tmp 9) (.tmp 23) rfl gV [.string ⟨#[]⟩, .string ⟨#[]⟩] rfl rfl 76 _ eC.out 2 (by kernel_rfl) rfl rfl (j6 ⟨⟨#[]⟩, ⟨#[]⟩⟩) ?_; intro W3 aa J; have aQ := gx aI eC J; have eS := gr dv eC J; have aT := gb aK dQ J; have ql := ak (aa); have ob := aa.cell 0 _ rfl; have mO := aa.cell 1 _ rfl; clear aa J aI dv aK eC))
    go_roundw
    case rel => exact ⟨k + 1, by omega, by go_num, aQ, ⟨by rw [HUS.out]; exact eS.out⟩, aT⟩
    case measure => simp [intOf]; omega
   | true =>
    rw [if_pos rfl] at hof
    obtain ⟨x, hx⟩ : ∃ x, x = mu b k := ⟨_, rfl⟩
    rw [← hx] at hof hus
    rw [Bool.true_and] at hus
    have wq := ak hof
    cases hpp : pG h n x with
    | true =>
     have HUS := ak (show fb b (pG h n) (k + 1) = oo ++ [b.addr + (k : Int)] by rw [hus, hpp]; rfl)
     have hcs := Qi hpp
     clear hus hof hhb hoo hul Lo F6 hx hpp
     obtain ⟨o1, fT⟩ : ∃ o1, o1 = oo ++ [b.addr + (k : Int)] := ⟨_, rfl⟩
     rw [← fT] at HUS
     have mZ := ak fT
     clear fT
     rcases hcs with ⟨p1, p2⟩ | ⟨p1, p0, p2⟩ | ⟨p1, p2, p3⟩ | ⟨p1, p0, p2, p3⟩
     ·obtain ⟨e1, f1, g1⟩ := Js p1
      obtain ⟨e2, f2, g2⟩ := Js p2
      go_wp2_with (first
       | ((with_reducible refine aJ (N := 16) rfl ?_); refine aN rfl 62 (.tmp 3) rfl gX rfl _ _ _ aZ.out Try.underlying62 rfl 5 (by kernel_rfl) rfl ?_)
       | (go_at_call 62; refine (wq.out _ (HR.out.below an.out)).mono ?_; rintro e W1 ⟨rfl, I⟩; have au := mv I aZ; have dt := mv I b9; have aA := ak (an.out.trans (I.mono an.out.size)); clear I aZ b9 an mP)
       | (refine aH (some 9) rfl rfl 76 rfl [.string ⟨#[]⟩, .string ⟨#[]⟩] (fun _ => by kernel_rfl) ?_; intro gV W2 J aa I; have dQ := ge aA J; have fL := ne au J; have aI := mv I au; have dv := mv I dt; have aK := mv I aA; have eC := ak (aa); clear J aa I au dt aA)
       | (refine a7 rfl 76 (.tmp 9) (.tmp 23) rfl gV [.string x.f0, .string x.f1] rfl rfl 76 _ eC.out 2 (by kernel_rfl) rfl rfl (j6 x) ?_; intro W3 aa J; have aQ := gx aI eC J; have eS := gr dv eC J; have aT := gb aK dQ J; have ql := ak (aa); have ob := aa.cell 0 _ rfl; have mO := aa.cell 1 _ rfl; have sF := aQ.out.cell 0 _ rfl; clear aa J aI dv aK eC)
       | ((with_reducible refine cy (b := .append) (xs := #[.tmp 46, .tmp 52]) rfl ?_); at_builtin; refine Kd.R_append (Kd.int .u32) (w0 := w) w.heap.size rfl (.tmp 46) (.tmp 52) 77 46 (.int .u32 0) 4 rfl Try.underlying77 ko rfl (by decide) (by omega) _ oo (b.addr + (k : Int)) [.int .u32 (b.addr + (k : Int))] (fun _ => True) (fun _ => False) rfl rfl rfl (fun _ hk => hk.elim) (fun _ _ => trivial) eS.out aT.out aT.out.size (by have := HUL.out; omega) ?_; intro v_ W4 bc I J gp; rw [← mZ.out] at bc; have bg := ak (aQ.out.grown J (aQ.out.ne_row eS.out (by decide))); have nC := ak (bc); have bq := ak (I); obtain ⟨AO, cO, rfl⟩ := Kd.R_slice bc; clear bc I J gp aQ eS aT ob mO sF))
      go_roundw
      case rel => exact ⟨k + 1, by omega, by go_num, bg, ⟨by rw [HUS.out]; exact nC.out⟩, bq⟩
      case measure => simp [intOf]; omega
     ·obtain ⟨e1, f1, g1⟩ := Cy p1
      have g0 := Jo p0
      obtain ⟨e2, f2, g2⟩ := Js p2
      go_wp2_with (first
       | ((with_reducible refine aJ (N := 16) rfl ?_); refine aN rfl 62 (.tmp 3) rfl gX rfl _ _ _ aZ.out Try.underlying62 rfl 5 (by kernel_rfl) rfl ?_)
       | (go_at_call 62; refine (wq.out _ (HR.out.below an.out)).mono ?_; rintro e W1 ⟨rfl, I⟩; have au := mv I aZ; have dt := mv I b9; have aA := ak (an.out.trans (I.mono an.out.size)); clear I aZ b9 an mP)
       | (refine aH (some 9) rfl rfl 76 rfl [.string ⟨#[]⟩, .string ⟨#[]⟩] (fun _ => by kernel_rfl) ?_; intro gV W2 J aa I; have dQ := ge aA J; have fL := ne au J; have aI := mv I au; have dv := mv I dt; have aK := mv I aA; have eC := ak (aa); clear J aa I au dt aA)
       | (refine a7 rfl 76 (.tmp 9) (.tmp 23) rfl gV [.string x.f0, .string x.f1] rfl rfl 76 _ eC.out 2 (by kernel_rfl) rfl rfl (j6 x) ?_; intro W3 aa J; have aQ := gx aI eC J; have eS := gr dv eC J; have aT := gb aK dQ J; have ql := ak (aa); have ob := aa.cell 0 _ rfl; have mO := aa.cell 1 _ rfl; have sF := aQ.out.cell 0 _ rfl; clear aa J aI dv aK eC)
       | ((with_reducible refine cy (b := .append) (xs := #[.tmp 46, .tmp 52]) rfl ?_); at_builtin; refine Kd.R_append (Kd.int .u32) (w0 := w) w.heap.size rfl (.tmp 46) (.tmp 52) 77 46 (.int .u32 0) 4 rfl Try.underlying77 ko rfl (by decide) (by omega) _ oo (b.addr + (k : Int)) [.int .u32 (b.addr + (k : Int))] (fun _ => True) (fun _ => False) rfl rfl rfl (fun _ hk => hk.elim) (fun _ _ => trivial) eS.out aT.out aT.out.size (by have := HUL.out; omega) ?_; intro v_ W4 bc I J gp; rw [← mZ.out] at bc; have bg := ak (aQ.out.grown J (aQ.out.ne_row eS.out (by decide))); have nC := ak (bc); have bq := ak (I); obtain ⟨AO, cO, rfl⟩ := Kd.R_slice bc; clear bc I J gp aQ eS aT ob mO sF))
      go_roundw
      case rel => exact ⟨k + 1, by omega, by go_num, bg, ⟨by rw [HUS.out]; exact nC.out⟩, bq⟩
      case measure => simp [intOf]; omega
     ·obtain ⟨e1, f1, g1⟩ := Js p1
      obtain ⟨e2, f2, g2⟩ := Cy p2
      have g3 := Jo p3
      go_wp2_with (first
       | ((with_reducible refine aJ (N := 16) rfl ?_); refine aN rfl 62 (.tmp 3) rfl gX rfl _ _ _ aZ.out Try.underlying62 rfl 5 (by kernel_rfl) rfl ?_)
       | (go_at_call 62; refine (wq.out _ (HR.out.below an.out)).mono ?_; rintro e W1 ⟨rfl, I⟩; have au := mv I aZ; have dt := mv I b9; have aA := ak (an.out.trans (I.mono an.out.size)); clear I aZ b9 an mP)
       | (refine aH (some 9) rfl rfl 76 rfl [.string ⟨#[]⟩, .string ⟨#[]⟩] (fun _ => by kernel_rfl) ?_; intro gV W2 J aa I; have dQ := ge aA J; have fL := ne au J; have aI := mv I au; have dv := mv I dt; have aK := mv I aA; have eC := ak (aa); clear J aa I au dt aA)
       | (refine a7 rfl 76 (.tmp 9) (.tmp 23) rfl gV [.string x.f0, .string x.f1] rfl rfl 76 _ eC.out 2 (by kernel_rfl) rfl rfl (j6 x) ?_; intro W3 aa J; have aQ := gx aI eC J; have eS := gr dv eC J; have aT := gb aK dQ J; have ql := ak (aa); have ob := aa.cell 0 _ rfl; have mO := aa.cell 1 _ rfl; have sF := aQ.out.cell 0 _ rfl; clear aa J aI dv aK eC)
       | ((with_reducible refine cy (b := .append) (xs := #[.tmp 46, .tmp 52]) rfl ?_); at_builtin; refine Kd.R_append (Kd.int .u32) (w0 := w) w.heap.size rfl (.tmp 46) (.tmp 52) 77 46 (.int .u32 0) 4 rfl Try.underlying77 ko rfl (by decide) (by omega) _ oo (b.addr + (k : Int)) [.int .u32 (b.addr + (k : Int))] (fun _ => True) (fun _ => False) rfl rfl rfl (fun _ hk => hk.elim) (fun _ _ => trivial) eS.out aT.out aT.out.size (by have := HUL.out; omega) ?_; intro v_ W4 bc I J gp; rw [← mZ.out] at bc; have bg := ak (aQ.out.grown J (aQ.out.ne_row eS.out (by decide))); have nC := ak (bc); have bq := ak (I); obtain ⟨AO, cO, rfl⟩ := Kd.R_slice bc; clear bc I J gp aQ eS aT ob mO sF))
      go_roundw
      case rel => exact ⟨k + 1, by omega, by go_num, bg, ⟨by rw [HUS.out]; exact nC.out⟩, bq⟩
      case measure => simp [intOf]; omega
     ·obtain ⟨e1, f1, g1⟩ := Cy p1
      have g0 := Jo p0
      obtain ⟨e2, f2, g2⟩ := Cy p2
      have g3 := Jo p3
      go_wp2_with (first
       | ((with_reducible refine aJ (N := 16) rfl ?_); refine aN rfl 62 (.tmp 3) rfl gX rfl _ _ _ aZ.out Try.underlying62 rfl 5 (by kernel_rfl) rfl ?_)
       | (go_at_call 62; refine (wq.out _ (HR.out.below an.out)).mono ?_; rintro e W1 ⟨rfl, I⟩; have au := mv I aZ; have dt := mv I b9; have aA := ak (an.out.trans (I.mono an.out.size)); clear I aZ b9 an mP)
       | (refine aH (some 9) rfl rfl 76 rfl [.string ⟨#[]⟩, .string ⟨#[]⟩] (fun _ => by kernel_rfl) ?_; intro gV W2 J aa I; have dQ := ge aA J; have fL := ne au J; have aI := mv I au; have dv := mv I dt; have aK := mv I aA; have eC := ak (aa); clear J aa I au dt aA)
       | (refine a7 rfl 76 (.tmp 9) (.tmp 23) rfl gV [.string x.f0, .string x.f1] rfl rfl 76 _ eC.out 2 (by kernel_rfl) rfl rfl (j6 x) ?_; intro W3 aa J; have aQ := gx aI eC J; have eS := gr dv eC J; have aT := gb aK dQ J; have ql := ak (aa); have ob := aa.cell 0 _ rfl; have mO := aa.cell 1 _ rfl; have sF := aQ.out.cell 0 _ rfl; clear aa J aI dv aK eC)
       | ((with_reducible refine cy (b := .append) (xs := #[.tmp 46, .tmp 52]) rfl ?_); at_builtin; refine Kd.R_append (Kd.int .u32) (w0 := w) w.heap.size rfl (.tmp 46) (.tmp 52) 77 46 (.int .u32 0) 4 rfl Try.underlying77 ko rfl (by decide) (by omega) _ oo (b.addr + (k : Int)) [.int .u32 (b.addr + (k : Int))] (fun _ => True) (fun _ => False) rfl rfl rfl (fun _ hk => hk.elim) (fun _ _ => trivial) eS.out aT.out aT.out.size (by have := HUL.out; omega) ?_; intro v_ W4 bc I J gp; rw [← mZ.out] at bc; have bg := ak (aQ.out.grown J (aQ.out.ne_row eS.out (by decide))); have nC := ak (bc); have bq := ak (I); obtain ⟨AO, cO, rfl⟩ := Kd.R_slice bc; clear bc I J gp aQ eS aT ob mO sF))
      go_roundw
      case rel => exact ⟨k + 1, by omega, by go_num, bg, ⟨by rw [HUS.out]; exact nC.out⟩, bq⟩
      case measure => simp [intOf]; omega
    | false =>
     have HUS := ak (show fb b (pG h n) (k + 1) = oo by rw [hus, hpp]; simp)
     have hcs := Sf hpp
     clear hus hof hhb hoo hul Lo F6 hx hpp
     rcases hcs with ⟨p1, p0⟩ | ⟨p1, p2, p3⟩ | ⟨p1, p0, p2, p3⟩
     ·obtain ⟨e1, f1, g1⟩ := Cy p1
      have g0 := QU p0
      go_wp2_with (first
       | ((with_reducible refine aJ (N := 16) rfl ?_); refine aN rfl 62 (.tmp 3) rfl gX rfl _ _ _ aZ.out Try.underlying62 rfl 5 (by kernel_rfl) rfl ?_)
       | (go_at_call 62; refine (wq.out _ (HR.out.below an.out)).mono ?_; rintro e W1 ⟨rfl, I⟩; have au := mv I aZ; have dt := mv I b9; have aA := ak (an.out.trans (I.mono an.out.size)); clear I aZ b9 an mP)
       | (refine aH (some 9) rfl rfl 76 rfl [.string ⟨#[]⟩, .string ⟨#[]⟩] (fun _ => by kernel_rfl) ?_; intro gV W2 J aa I; have dQ := ge aA J; have fL := ne au J; have aI := mv I au; have dv := mv I dt; have aK := mv I aA; have eC := ak (aa); clear J aa I au dt aA)
       | (refine a7 rfl 76 (.tmp 9) (.tmp 23) rfl gV [.string x.f0, .string x.f1] rfl rfl 76 _ eC.out 2 (by kernel_rfl) rfl rfl (j6 x) ?_; intro W3 aa J; have aQ := gx aI eC J; have eS := gr dv eC J; have aT := gb aK dQ J; have ql := ak (aa); have ob := aa.cell 0 _ rfl; have mO := aa.cell 1 _ rfl; clear aa J aI dv aK eC))
      go_roundw
      case rel => exact ⟨k + 1, by omega, by go_num, aQ, ⟨by rw [HUS.out]; exact eS.out⟩, aT⟩
      case measure => simp [intOf]; omega
     ·obtain ⟨e1, f1, g1⟩ := Js p1
      obtain ⟨e2, f2, g2⟩ := Cy p2
      have g3 := QU p3
      go_wp2_with (first
       | ((with_reducible refine aJ (N := 16) rfl ?_); refine aN rfl 62 (.tmp 3) rfl gX rfl _ _ _ aZ.out Try.underlying62 rfl 5 (by kernel_rfl) rfl ?_)
       | (go_at_call 62; refine (wq.out _ (HR.out.below an.out)).mono ?_; rintro e W1 ⟨rfl, I⟩; have au := mv I aZ; have dt := mv I b9; have aA := ak (an.out.trans (I.mono an.out.size)); clear I aZ b9 an mP)
       | (refine aH (some 9) rfl rfl 76 rfl [.string ⟨#[]⟩, .string ⟨#[]⟩] (fun _ => by kernel_rfl) ?_; intro gV W2 J aa I; have dQ := ge aA J; have fL := ne au J; have aI := mv I au; have dv := mv I dt; have aK := mv I aA; have eC := ak (aa); clear J aa I au dt aA)
       | (refine a7 rfl 76 (.tmp 9) (.tmp 23) rfl gV [.string x.f0, .string x.f1] rfl rfl 76 _ eC.out 2 (by kernel_rfl) rfl rfl (j6 x) ?_; intro W3 aa J; have aQ := gx aI eC J; have eS := gr dv eC J; have aT := gb aK dQ J; have ql := ak (aa); have ob := aa.cell 0 _ rfl; have mO := aa.cell 1 _ rfl; clear aa J aI dv aK eC))
      go_roundw
      case rel => exact ⟨k + 1, by omega, by go_num, aQ, ⟨by rw [HUS.out]; exact eS.out⟩, aT⟩
      case measure => simp [intOf]; omega
     ·obtain ⟨e1, f1, g1⟩ := Cy p1
      have g0 := Jo p0
      obtain ⟨e2, f2, g2⟩ := Cy p2
      have g3 := QU p3
      go_wp2_with (first
       | ((with_reducible refine aJ (N := 16) rfl ?_); refine aN rfl 62 (.tmp 3) rfl gX rfl _ _ _ aZ.out Try.underlying62 rfl 5 (by kernel_rfl) rfl ?_)
       | (go_at_call 62; refine (wq.out _ (HR.out.below an.out)).mono ?_; rintro e W1 ⟨rfl, I⟩; have au := mv I aZ; have dt := mv I b9; have aA := ak (an.out.trans (I.mono an.out.size)); clear I aZ b9 an mP)
       | (refine aH (some 9) rfl rfl 76 rfl [.string ⟨#[]⟩, .string ⟨#[]⟩] (fun _ => by kernel_rfl) ?_; intro gV W2 J aa I; have dQ := ge aA J; have fL := ne au J; have aI := mv I au; have dv := mv I dt; have aK := mv I aA; have eC := ak (aa); clear J aa I au dt aA)
       | (refine a7 rfl 76 (.tmp 9) (.tmp 23) rfl gV [.string x.f0, .string x.f1] rfl rfl 76 _ eC.out 2 (by kernel_rfl) rfl rfl (j6 x) ?_; intro W3 aa J; have aQ := gx aI eC J; have eS := gr dv eC J; have aT := gb aK dQ J; have ql := ak (aa); have ob := aa.cell 0 _ rfl; have mO := aa.cell 1 _ rfl; clear aa J aI dv aK eC))
      go_roundw
      case rel => exact ⟨k + 1, by omega, by go_num, aQ, ⟨by rw [HUS.out]; exact eS.out⟩, aT⟩
      case measure => simp [intOf]; omega
  ·obtain rfl : k = 64 := by omega
   have hkb : decide (((64 : Nat) : Int) < 64) = false := by decide
   go_wp2_with fail
   go_ret
   exact ⟨_, rfl, b9.out, an.out⟩
end Go.Proofs.Ytemhalnhbgkbcaa.V
end

section
namespace Go.Proofs.Ytemhalnhbgkbcaa.V
structure RG0 (b : Bk) : Prop where
 a0 : 0 ≤ b.addr
 a1 : b.addr < 4294967296
 first : cC b.addr = b.addr
 owner : gg b.aff = true
 na : b.attrs.length ≤ 64
 l64 : b.slots.length = 64
 s0 : ∀ s ∈ b.slots, 0 ≤ s ∧ s ≤ (b.attrs.length : Int)
 may : ∀ a ∈ b.attrs, fj a = true
 nd : b.attrs.Nodup
 f0 : ∀ f ∈ b.free, 0 ≤ f ∧ f < 64 ∧ b.slots.getD f.toNat 0 = 0
 fnd : b.free.Nodup
 zc : b.slots.countP (fun x => x == 0) = b.free.length
structure RG (b : Bk) : Prop extends RG0 b where
 used : ∀ k, k < b.attrs.length → eL b.slots k = true
theorem JZ (l : List Int) (k : Nat) (hk : k < 64) : (gy l).testBit k = eL l k := by
 have h1 : (gy l).testBit k = decide ((k : Int) ∈ l.map (fun s => s - 1)) := mI _ k hk
 rw [h1]
 unfold eL
 rw [Bool.eq_iff_iff, decide_eq_true_eq, List.any_eq_true, List.mem_map]
 constructor
 ·rintro ⟨s, hs, he⟩
  exact ⟨s, hs, by rw [beq_iff_eq]; omega⟩
 ·rintro ⟨s, hs, he⟩
  rw [beq_iff_eq] at he
  exact ⟨s, hs, by omega⟩
theorem FB (l : List Int) : (iO (gy l)).length = ((List.range 64).filter (eL l)).length := by
 unfold iO k8
 rw [List.length_map]
 congr 1
 apply List.filter_congr
 intro k hk
 exact JZ l k (List.mem_range.1 hk)
theorem NT {l : List Int} {n k : Nat} (h : ∀ s ∈ l, s ≤ (n : Int)) (hu : eL l k = true) : k < n := by
 unfold eL at hu
 rw [List.any_eq_true] at hu
 obtain ⟨s, hs, he⟩ := hu
 rw [beq_iff_eq] at he
 have := h s hs
 omega
theorem zK (p : Nat → Bool) (n m : Nat) (hnm : n ≤ m) (h : ∀ k, p k = true → k < n) : ((List.range m).filter p).length = ((List.range n).filter p).length := by
 obtain ⟨d, rfl⟩ := Nat.le.dest hnm
 clear hnm
 induction d with
 | zero => rfl
 | succ d ih =>
  rw [show n + (d + 1) = (n + d) + 1 from rfl, List.range_succ, List.filter_append, List.length_append, ih]
  have : p (n + d) = false := by
   cases e : p (n + d) with
   | false => rfl
   | true => have := h _ e; omega
  simp [this]
theorem filter_all {p : Nat → Bool} {n : Nat} : ((List.range n).filter p).length = n ↔ ∀ k, k < n → p k = true := by
 constructor
 ·intro h
  have h2 : ((List.range n).filter p).length = (List.range n).length := by rw [h, List.length_range]
  rw [List.length_filter_eq_length_iff] at h2
  exact fun k hk => h2 k (List.mem_range.2 hk)
 ·intro h
  have h2 : ((List.range n).filter p) = List.range n := List.filter_eq_self.2 (fun k hk => h k (List.mem_range.1 hk))
  rw [h2, List.length_range]
theorem Dr {b : Bk} (hn : b.attrs.length ≤ 64) (h : ∀ s ∈ b.slots, s ≤ (b.attrs.length : Int)) : (iO (gy b.slots)).length = b.attrs.length ↔ ∀ k, k < b.attrs.length → eL b.slots k = true := by
 rw [FB, zK _ b.attrs.length 64 hn (fun k hk => NT h hk), filter_all]
theorem DM (l : List At) : yH l ↔ l.Nodup := by
 unfold yH
 constructor
 ·intro h
  rw [List.nodup_iff_pairwise_ne, List.pairwise_iff_getElem]
  intro i j hi hj hij e
  have h1 := h j hj
  rw [List.any_eq_false] at h1
  refine h1 l[i] (List.mem_take_iff_getElem.2 ⟨i, by omega, rfl⟩) ?_
  rw [nP _ _ hj, ← e]
  exact qo _
 ·intro h j hj
  rw [List.any_eq_false]
  intro x hx hs
  rw [l8, nP _ _ hj] at hs
  obtain ⟨i, hi, he⟩ := List.mem_take_iff_getElem.1 hx
  rw [List.nodup_iff_pairwise_ne, List.pairwise_iff_getElem] at h
  exact h i j (by omega) hj (by omega) (by rw [he, hs])
theorem ya (l : List Int) (j : Nat) (h : j < l.length) : rd l (j : Int) = l[j] := by simp [rd, List.getD, h]
theorem RG.of {b : Bk} (hk : BkOk b) (hl : b.slots.length = 64) (h : eE b = true) : RG b := by
 have hp := jD h
 have hs : ∀ s ∈ b.slots, 0 ≤ s ∧ s ≤ (b.attrs.length : Int) := fun s hs => ⟨(hk.s8 s hs).1, hp.sa s hs⟩
 refine ⟨⟨hk.a0, hk.a1, hp.first, hp.owner, hp.na, hl, hs, ?_, (DM _).1 hp.nd, ?_, ?_, hp.zc⟩, (Dr hp.na hp.sa).1 hp.used⟩
 ·intro a ha
  obtain ⟨j, hj, rfl⟩ := List.mem_iff_getElem.1 ha
  have := hp.may j hj
  rwa [nP _ _ hj] at this
 ·intro f hf
  obtain ⟨j, hj, rfl⟩ := List.mem_iff_getElem.1 hf
  have := qi hp hk j hj
  rw [ya _ _ hj] at this
  exact ⟨this.1, this.2.1, this.2.2.2⟩
 ·rw [List.nodup_iff_pairwise_ne, List.pairwise_iff_getElem]
  intro i j hi hj hij e
  have := qi hp hk j hj
  rw [ya _ _ hj] at this
  exact this.2.2.1 (List.mem_take_iff_getElem.2 ⟨i, by omega, e⟩)
theorem RG0.ok {b : Bk} (h : RG0 b) : BkOk b := ⟨h.a0, h.a1, fun s hs => by have := h.s0 s hs; have := h.na; omega, fun f hf => by have := h.f0 f hf; omega⟩
theorem RG.right {b : Bk} (h : RG b) : eE b = true := by
 have hs : ∀ s ∈ b.slots, s ≤ (b.attrs.length : Int) := fun s hs => (h.s0 s hs).2
 unfold eE lu lE
 simp only [Bool.and_eq_true, decide_eq_true_eq, List.all_eq_true, beq_iff_eq, List.mem_range, Bool.not_eq_true']
 refine ⟨h.first, h.owner, h.na, ⟨hs, fun j hj => ⟨?_, (DM _).2 h.nd j hj⟩, (Dr h.na hs).2 h.used⟩, fun j hj => ?_, h.zc⟩
 ·rw [nP _ _ hj]
  exact h.may _ (List.getElem_mem hj)
 ·unfold jF
  rw [ya _ _ hj]
  have h1 := h.f0 _ (List.getElem_mem hj)
  simp only [Bool.or_eq_false_iff, decide_eq_false_iff_not, bne_eq_false_iff_eq]
  refine ⟨by omega, fun hm => ?_, h1.2.2⟩
  obtain ⟨i, hi, he⟩ := List.mem_take_iff_getElem.1 hm
  have hnd := h.fnd
  rw [List.nodup_iff_pairwise_ne, List.pairwise_iff_getElem] at hnd
  exact hnd i j (by omega) hj (by omega) he
theorem Ig {b : Bk} (h : RG0 b) (i : Nat) (hi : i < 64) (hz : b.slots.getD i 0 = 0) : (i : Int) ∈ b.free := by
 apply Classical.byContradiction
 intro hn
 have h1 : ((i : Int) :: b.free).Nodup := List.nodup_cons.2 ⟨hn, h.fnd⟩
 have h2 := h1.length_le_of_subset (l₂ := (((List.range 64).filter (fun k => b.slots.getD k 0 == 0)).map (fun k : Nat => (k : Int)))) (by
  intro x hx
  rw [List.mem_map]
  rcases List.mem_cons.1 hx with rfl | hx
  ·exact ⟨i, List.mem_filter.2 ⟨List.mem_range.2 hi, by rw [hz]; rfl⟩, rfl⟩
  ·have := h.f0 x hx
   exact ⟨x.toNat, List.mem_filter.2 ⟨List.mem_range.2 (by omega), by rw [this.2.2]; rfl⟩, by omega⟩)
 have h3 : ((List.range 64).filter (fun k => b.slots.getD k 0 == 0)).length = b.slots.countP (fun x => x == 0) := by
  have e : b.slots = (List.range 64).map (fun k => b.slots.getD k 0) := by
   apply List.ext_getElem
   ·simp [h.l64]
   ·intro k h1 h2
    simp [List.getD, h1]
  conv => rhs; rw [e]
  rw [List.countP_map, List.countP_eq_length_filter]
  rfl
 rw [List.length_cons, List.length_map, h3, h.zc] at h2
 omega
end Go.Proofs.Ytemhalnhbgkbcaa.V
end

section
namespace Go.Proofs.Ytemhalnhbgkbcaa.V
theorem getD_set_ne {l : List Int} {i j : Nat} (x : Int) (h : i ≠ j) : (l.set i x).getD j 0 = l.getD j 0 := by
 simp [List.getD, List.getElem?_set_ne h]
theorem FG {l : List Int} {i : Nat} (x : Int) (h : i < l.length) : (l.set i x).getD i 0 = x := by
 simp [List.getD, h]
theorem getD_eq {l : List Int} {i : Nat} (h : i < l.length) : l.getD i 0 = l[i] := by simp [List.getD, h]
theorem countP_set {l : List Int} {i : Nat} (x : Int) (h : i < l.length) (h0 : l.getD i 0 = 0) (hx : x ≠ 0) : (l.set i x).countP (fun s => s == 0) + 1 = l.countP (fun s => s == 0) := by
 rw [getD_eq h] at h0
 rw [List.countP_set h]
 have h1 : 1 ≤ l.countP (fun s => s == 0) := by
  rw [Nat.one_le_iff_ne_zero, Ne, List.countP_eq_zero]
  intro hc
  exact hc _ (List.getElem_mem h) (by rw [h0]; rfl)
 rw [h0]
 have e1 : ((0 : Int) == 0) = true := rfl
 have e2 : (x == 0) = false := by simpa using hx
 rw [e1, e2]
 simp
 omega
theorem FI {l : List Int} {i : Nat} (h : i < l.length) (h0 : l.getD i 0 ≠ 0) : (l.set i 0).countP (fun s => s == 0) = l.countP (fun s => s == 0) + 1 := by
 rw [getD_eq h] at h0
 rw [List.countP_set h]
 have e1 : ((0 : Int) == 0) = true := rfl
 have e2 : (l[i] == 0) = false := by simpa using h0
 rw [e1, e2]
 simp
theorem Dq {l : List Int} {i k : Nat} (x : Int) (h : i < l.length) (h0 : l.getD i 0 = 0) (hu : eL l k = true) : eL (l.set i x) k = true := by
 rw [getD_eq h] at h0
 unfold eL at hu ⊢
 rw [List.any_eq_true] at hu ⊢
 obtain ⟨s, hs, he⟩ := hu
 refine ⟨s, ?_, he⟩
 obtain ⟨j, hj, rfl⟩ := List.mem_iff_getElem.1 hs
 have hne : i ≠ j := by
  rintro rfl
  rw [beq_iff_eq, h0] at he
  omega
 exact List.mem_iff_getElem.2 ⟨j, by simpa using hj, by rw [List.getElem_set_ne hne]⟩
theorem yX {l : List Int} (h : l.Nodup) {i : Int} (hi : i ∈ l) : (l.filter (fun x => x != i)).length + 1 = l.length := by
 induction l with
 | nil => cases hi
 | cons y l ih =>
  rw [List.nodup_cons] at h
  by_cases e : y = i
  ·subst e
   have : l.filter (fun x => x != y) = l := List.filter_eq_self.2 (fun x hx => by
    have : x ≠ y := fun e => h.1 (e ▸ hx)
    simpa using this)
   simp [this]
  ·rcases List.mem_cons.1 hi with e2 | hi
   ·exact absurd e2.symm e
   ·have := ih h.2 hi
    have e3 : (y != i) = true := by simpa using e
    simp only [List.filter_cons, e3, if_true, List.length_cons]
    omega
theorem RG.sum {b : Bk} (h : RG b) : b.attrs.length + b.free.length ≤ 64 := (jD h.right).sum_le h.ok h.l64
theorem Qm {l : List At} {a : At} : (∃ i, i < l.length ∧ ft l a = i + 1 ∧ eZ l a = l) ∨ (a ∉ l ∧ ft l a = l.length + 1 ∧ eZ l a = l ++ [a]) := by
 unfold ft eZ
 cases h : g5 l a with
 | some i => exact Or.inl ⟨i, yU h, rfl, rfl⟩
 | none =>
  refine Or.inr ⟨fun hm => ?_, rfl, rfl⟩
  unfold g5 at h
  rw [List.findIdx?_eq_none_iff] at h
  have := h a hm
  rw [qo] at this
  cases this
theorem RG.give {b : Bk} (h : RG b) (i : Nat) (hi : i < 64) (hz : b.slots.getD i 0 = 0) (a : At) (ha : fj a = true) : RG (gE b i a) := by
 have hil : i < b.slots.length := by rw [h.l64]; exact hi
 have hfr := Ig h.toRG0 i hi hz
 have hsum := h.sum
 have hfl : 1 ≤ b.free.length := List.length_pos_of_mem hfr
 have hfe := yX h.fnd hfr
 have Ea : ∀ f ∈ (gE b i a).free, 0 ≤ f ∧ f < 64 ∧ (gE b i a).slots.getD f.toNat 0 = 0 := by
  intro f hf
  obtain ⟨hf, hne⟩ := List.mem_filter.1 hf
  have h1 := h.f0 f hf
  have ag0 : f ≠ (i : Int) := by simpa using hne
  refine ⟨h1.1, h1.2.1, ?_⟩
  show (b.slots.set i _).getD f.toNat 0 = 0
  rw [getD_set_ne _ (by omega)]
  exact h1.2.2
 have hnz : ((ft b.attrs a : Nat) : Int) ≠ 0 := by have := F0 b.attrs a; omega
 have hzc : (gE b i a).slots.countP (fun x => x == 0) = (gE b i a).free.length := by
  have := countP_set (x := ((ft b.attrs a : Nat) : Int)) hil hz hnz
  have wF := h.zc
  show (b.slots.set i _).countP _ = (b.free.filter _).length
  omega
 have hl : (gE b i a).slots.length = 64 := by show (b.slots.set i _).length = 64; rw [List.length_set]; exact h.l64
 rcases @Qm b.attrs a with ⟨m, hm, hn, had⟩ | ⟨hnm, hn, had⟩
 ·have e : (gE b i a).attrs = b.attrs := had
  refine ⟨⟨h.a0, h.a1, h.first, h.owner, by rw [e]; exact h.na, hl, ?_, by rw [e]; exact h.may, by rw [e]; exact h.nd, Ea, h.fnd.filter _, hzc⟩, ?_⟩
  ·intro s hs
   rw [e]
   rcases List.mem_or_eq_of_mem_set hs with hs | rfl
   ·exact h.s0 s hs
   ·rw [hn]; omega
  ·intro k hk
   rw [e] at hk
   exact Dq _ hil hz (h.used k hk)
 ·have e : (gE b i a).attrs = b.attrs ++ [a] := had
  have el : (gE b i a).attrs.length = b.attrs.length + 1 := by rw [e]; simp
  refine ⟨⟨h.a0, h.a1, h.first, h.owner, by omega, hl, ?_, ?_, ?_, Ea, h.fnd.filter _, hzc⟩, ?_⟩
  ·intro s hs
   rw [el]
   rcases List.mem_or_eq_of_mem_set hs with hs | rfl
   ·have := h.s0 s hs; omega
   ·rw [hn]; omega
  ·rw [e]
   intro x hx
   rcases List.mem_append.1 hx with hx | hx
   ·exact h.may x hx
   ·rw [List.mem_singleton.1 hx]; exact ha
  ·rw [e, List.nodup_append]
   refine ⟨h.nd, by simp, ?_⟩
   intro x hx y hy e2
   rw [List.mem_singleton.1 hy] at e2
   exact hnm (e2 ▸ hx)
  ·intro k hk
   rw [el] at hk
   rcases Nat.lt_or_ge k b.attrs.length with h1 | h1
   ·exact Dq _ hil hz (h.used k h1)
   ·obtain rfl : k = b.attrs.length := by omega
    show eL (b.slots.set i ((ft b.attrs a : Nat) : Int)) _ = true
    unfold eL
    rw [List.any_eq_true]
    exact ⟨_, List.mem_set hil _, by rw [hn, beq_iff_eq]⟩
theorem RG.asg {b : Bk} (h : RG b) (a : At) (ha : fj a = true) : ∀ k, k ≤ b.free.length → RG (fF b k a) := by
 have hp := jD h.right
 intro k
 induction k with
 | zero => intro _; rw [KN]; exact h
 | succ k ih =>
  intro hk
  have h1 := ih (by omega)
  have h2 := qi hp h.ok k (by omega)
  have h3 := E0 b k a (by omega)
  rw [← Em hp h.ok k (by omega) a]
  refine h1.give _ (by omega) ?_ a ha
  have h4 := h1.f0 (rd (fF b k a).free 0) (by
   have h5 := ya (fF b k a).free 0 h3.1
   have h6 : rd (fF b k a).free ((0 : Nat) : Int) = rd (fF b k a).free 0 := rfl
   rw [h6] at h5
   rw [h5]
   exact List.getElem_mem _)
  rw [h3.2] at h4
  exact h4.2.2
theorem RG.own {b : Bk} (h : RG b) (s : ByteArray) (hs : gg s = true) : RG (Hb b s) :=
 ⟨⟨h.a0, h.a1, h.first, hs, h.na, h.l64, h.s0, h.may, h.nd, h.f0, h.fnd, h.zc⟩, h.used⟩
end Go.Proofs.Ytemhalnhbgkbcaa.V
end

section
namespace Go.Proofs.Ytemhalnhbgkbcaa.V
theorem RG0.relF {s : Bk × List Int} (h : RG0 s.1) (x : Int) : RG0 (relF s x).1 := by
 unfold V.relF
 split
 ·rename_i hh
  obtain ⟨h1, h2, h3, h4⟩ := xz hh
  obtain ⟨b, o⟩ := s
  simp only at h h1 h2 h3 h4 ⊢
  obtain ⟨j, hj⟩ : ∃ j : Nat, x - b.addr = (j : Int) := ⟨(x - b.addr).toNat, by omega⟩
  rw [hj] at h4 h2 ⊢
  rw [Int.toNat_natCast] at h4 ⊢
  have hjl : j < b.slots.length := by rw [h.l64]; omega
  have n5 : b.slots.getD j 0 ≠ 0 := by simpa using h4
  have hnf : (j : Int) ∉ b.free := fun hm => n5 (by have := (h.f0 _ hm).2.2; rwa [Int.toNat_natCast] at this)
  refine ⟨h.a0, h.a1, h.first, h.owner, h.na, by rw [List.length_set]; exact h.l64, ?_, h.may, h.nd, ?_, ?_, ?_⟩
  ·intro s hs
   rcases List.mem_or_eq_of_mem_set hs with hs | rfl
   ·exact h.s0 s hs
   ·omega
  ·intro f hf
   rcases List.mem_append.1 hf with hf | hf
   ·have h5 := h.f0 f hf
    refine ⟨h5.1, h5.2.1, ?_⟩
    have hne : j ≠ f.toNat := by
     rintro rfl
     exact n5 h5.2.2
    rw [getD_set_ne _ hne]
    exact h5.2.2
   ·rw [List.mem_singleton.1 hf]
    refine ⟨by omega, by omega, ?_⟩
    rw [Int.toNat_natCast, FG _ hjl]
  ·rw [List.nodup_append]
   refine ⟨h.fnd, by simp, ?_⟩
   intro y hy z hz e
   rw [List.mem_singleton.1 hz] at e
   exact hnf (e ▸ hy)
  ·rw [FI hjl n5, List.length_append, List.length_singleton, h.zc]
 ·exact h
theorem RG0.relL {b : Bk} (h : RG0 b) (l : List Int) : RG0 (relL b l).1 := by
 unfold V.relL
 suffices hh : ∀ s : Bk × List Int, RG0 s.1 → RG0 (l.foldl V.relF s).1 from hh (b, []) h
 induction l with
 | nil => exact fun s hs => hs
 | cons x l ih => exact fun s hs => ih _ (hs.relF x)
theorem rn (l : List Int) {j k : Nat} (h : j ≤ k) : fZ l j ≤ fZ l k := by
 obtain ⟨d, rfl⟩ := Nat.le.dest h
 clear h
 induction d with
 | zero => exact Nat.le_refl _
 | succ d ih => rw [show j + (d + 1) = (j + d) + 1 from rfl, kF]; omega
theorem Ka (l : List Int) : ∀ (n k : Nat), k < fZ l n → ∃ j, j < n ∧ eL l j = true ∧ fZ l j = k := by
 intro n
 induction n with
 | zero => intro k h; cases h
 | succ n ih =>
  intro k h
  rw [kF] at h
  rcases Nat.lt_or_ge k (fZ l n) with h1 | h1
  ·obtain ⟨j, hj, h2⟩ := ih k h1
   exact ⟨j, by omega, h2⟩
  ·cases hu : eL l n with
   | true => rw [hu, if_pos rfl] at h; exact ⟨n, by omega, hu, by omega⟩
   | false => rw [hu, if_neg (by decide)] at h; omega
theorem DU (b : Bk) : (jM b b.attrs.length).Sublist b.attrs := by
 have e : b.attrs = (List.range b.attrs.length).map (iR b.attrs) := by
  apply List.ext_getElem
  ·simp
  ·intro k h1 h2
   simp [nP _ _ h1]
 unfold jM
 conv => rhs; rw [e]
 exact (List.filter_sublist).map _
theorem J9 {l : List Int} {s : Int} (h : s ∈ l) (h0 : 1 ≤ s) : 1 ≤ fZ l s.toNat := by
 have h1 := rS l s h h0
 have h2 := kF l (s.toNat - 1)
 rw [h1, if_pos rfl, Nat.sub_add_cancel (by omega)] at h2
 omega
theorem RG0.cmp {b : Bk} (h : RG0 b) : RG (lP b) := by
 have hkl : (lP b).attrs.length = fZ b.slots b.attrs.length := nf _ _
 have hz : ∀ s ∈ b.slots, ((fZ b.slots s.toNat : Nat) : Int) = 0 ↔ s = 0 := by
  intro s hs
  constructor
  ·intro e
   rcases Int.lt_or_le 0 s with h1 | h1
   ·have := J9 hs h1; omega
   ·have := h.s0 s hs; omega
  ·rintro rfl
   rfl
 refine ⟨⟨h.a0, h.a1, h.first, h.owner, ?_, by show (b.slots.map _).length = 64; rw [List.length_map]; exact h.l64, ?_, ?_, ?_, ?_, h.fnd, ?_⟩, ?_⟩
 ·rw [hkl]; have := yQ b.slots b.attrs.length; have := h.na; omega
 ·intro s hs
  obtain ⟨t, ht, rfl⟩ := List.mem_map.1 hs
  have h1 := h.s0 t ht
  have h2 := rn b.slots (show t.toNat ≤ b.attrs.length by omega)
  rw [hkl]
  omega
 ·exact fun a ha => h.may a ((DU b).subset ha)
 ·exact h.nd.sublist (DU b)
 ·intro f hf
  have h1 := h.f0 f hf
  refine ⟨h1.1, h1.2.1, ?_⟩
  have hfl : f.toNat < b.slots.length := by rw [h.l64]; omega
  show (b.slots.map _).getD f.toNat 0 = 0
  rw [getD_eq (by rw [List.length_map]; exact hfl), List.getElem_map, ← getD_eq hfl, h1.2.2]
  rfl
 ·show (b.slots.map _).countP _ = b.free.length
  rw [List.countP_map, ← h.zc]
  apply List.countP_congr
  intro s hs
  simp only [Function.comp, beq_iff_eq]
  exact hz s hs
 ·intro k hk
  rw [hkl] at hk
  obtain ⟨j, hj, hu, hr⟩ := Ka _ _ _ hk
  unfold eL at hu ⊢
  rw [List.any_eq_true] at hu ⊢
  obtain ⟨s, hs, he⟩ := hu
  rw [beq_iff_eq] at he
  refine ⟨_, List.mem_map.2 ⟨s, hs, rfl⟩, ?_⟩
  rw [beq_iff_eq, he, Int.toNat_natCast, kF, if_pos, hr]
  unfold eL
  rw [List.any_eq_true]
  exact ⟨s, hs, by rw [beq_iff_eq]; exact he⟩
theorem RG.rel {b : Bk} (h : RG b) (l : List Int) : RG (mV b l) := (h.toRG0.relL l).cmp
def Dw (l : List Int) (j : Nat) (s : Int) : Int := if s ≤ (j : Int) then s else (j : Int) + ((fZ l s.toNat - fZ l j : Nat) : Int)
def jl (b : Bk) (j : Nat) : Bk := ⟨b.addr, b.aff, b.slots.map (Dw b.slots j), b.free, b.attrs.take j ++ (jM b b.attrs.length).drop (fZ b.slots j)⟩
theorem Kl (b : Bk) (j d : Nat) : ∃ r, jM b (j + d) = jM b j ++ r := by
 induction d with
 | zero => exact ⟨[], by simp⟩
 | succ d ih =>
  obtain ⟨r, hr⟩ := ih
  exact ⟨_, by rw [show j + (d + 1) = (j + d) + 1 from rfl, rq, hr, List.append_assoc]⟩
theorem KD {b : Bk} (h : ∀ s ∈ b.slots, s ≤ (b.attrs.length : Int)) : jl b b.attrs.length = b := by
 obtain ⟨a, f, s, fr, at_⟩ := b
 unfold jl
 congr 1
 ·conv => rhs; rw [← List.map_id s]
  apply List.map_congr_left
  intro x hx
  unfold Dw
  rw [if_pos (h x hx)]
  rfl
 ·show at_.take at_.length ++ _ = at_
  rw [List.take_length, ← nf, List.drop_length, List.append_nil]
theorem Jk {b : Bk} (h : ∀ s ∈ b.slots, 0 ≤ s) : jl b 0 = lP b := by
 unfold jl lP
 congr 1
 apply List.map_congr_left
 intro x hx
 have h0 := h x hx
 unfold Dw
 split
 ·have : x = 0 := by omega
  subst this
  rfl
 ·rw [show fZ b.slots 0 = 0 from rfl]
  simp
theorem Le {l : List Int} {j : Nat} {s : Int} (hs : s ∈ l) : Dw l (j + 1) s = ((j + 1 : Nat) : Int) ↔ s = ((j + 1 : Nat) : Int) := by
 unfold Dw
 split
 ·exact Iff.rfl
 ·rename_i h1
  have h2 := rn l (show j + 1 ≤ s.toNat - 1 by omega)
  have h3 := rS l s hs (by omega)
  have h4 := kF l (s.toNat - 1)
  rw [h3, if_pos rfl, Nat.sub_add_cancel (by omega)] at h4
  constructor
  ·intro e; omega
  ·intro e; omega
theorem Jl (b : Bk) (j : Nat) : eL (jl b (j + 1)).slots j = eL b.slots j := by
 unfold eL
 rw [Bool.eq_iff_iff, List.any_eq_true, List.any_eq_true]
 constructor
 ·rintro ⟨s, hs, he⟩
  obtain ⟨t, ht, rfl⟩ := List.mem_map.1 hs
  rw [beq_iff_eq] at he
  exact ⟨t, ht, by rw [beq_iff_eq]; exact (Le ht).1 he⟩
 ·rintro ⟨s, hs, he⟩
  rw [beq_iff_eq] at he
  exact ⟨_, List.mem_map.2 ⟨s, hs, rfl⟩, by rw [beq_iff_eq]; exact (Le hs).2 he⟩
theorem EC {b : Bk} {j : Nat} (hj : j < b.attrs.length) (hu : eL b.slots j = true) : (jM b b.attrs.length).drop (fZ b.slots j) = iR b.attrs j :: (jM b b.attrs.length).drop (fZ b.slots (j + 1)) := by
 obtain ⟨d, hd⟩ := Nat.le.dest (show j + 1 ≤ b.attrs.length from hj)
 obtain ⟨r, hr⟩ := Kl b (j + 1) d
 rw [hd] at hr
 rw [hr, rq, hu, if_pos rfl, kF, hu, if_pos rfl, List.append_assoc, ← nf b j, List.drop_left]
 rw [show (jM b j).length + 1 = (jM b j ++ [iR b.attrs j]).length by simp, ← List.append_assoc, List.drop_left]
 rfl
theorem Jm {b : Bk} (j : Nat) (hj : j < b.attrs.length) : (if eL (jl b (j + 1)).slots j = true then jl b (j + 1) else kS (jl b (j + 1)) j) = jl b j := by
 rw [Jl]
 cases hu : eL b.slots j with
 | true =>
  rw [if_pos rfl]
  unfold jl
  congr 1
  ·apply List.map_congr_left
   intro s hs
   unfold Dw
   have h1 := kF b.slots j
   rw [hu, if_pos rfl] at h1
   by_cases a1 : s ≤ (j : Int)
   ·rw [if_pos (by omega), if_pos a1]
   ·rw [if_neg a1]
    by_cases a2 : s ≤ ((j + 1 : Nat) : Int)
    ·rw [if_pos a2]
     have : s.toNat = j + 1 := by omega
     rw [this]
     omega
    ·rw [if_neg a2]
     have h2 := rn b.slots (show j + 1 ≤ s.toNat by omega)
     omega
  ·rw [EC hj hu, xZ _ _ hj]
   simp
 | false =>
  rw [if_neg (by decide)]
  have h1 : fZ b.slots (j + 1) = fZ b.slots j := by
   rw [kF, hu, if_neg (by decide)]
   rfl
  unfold jl kS
  simp only
  congr 1
  ·rw [List.map_map]
   apply List.map_congr_left
   intro s hs
   have hns : s ≠ ((j + 1 : Nat) : Int) := by
    rintro rfl
    have := rS b.slots _ hs (by omega)
    rw [Int.toNat_natCast, Nat.add_sub_cancel, hu] at this
    cases this
   simp only [Function.comp]
   unfold mc Dw
   rw [h1]
   by_cases a1 : s ≤ (j : Int)
   ·rw [if_pos a1, if_pos (show s ≤ ((j + 1 : Nat) : Int) by omega), if_neg (by omega)]
   ·rw [if_neg a1, if_neg (show ¬ s ≤ ((j + 1 : Nat) : Int) by omega)]
    have h2 := rn b.slots (show j + 1 ≤ s.toNat - 1 by omega)
    have h3 := rS b.slots s hs (by omega)
    have h4 := kF b.slots (s.toNat - 1)
    rw [h3, if_pos rfl, Nat.sub_add_cancel (by omega)] at h4
    rw [if_pos (by omega)]
    omega
  ·rw [h1]
   have e1 : (b.attrs.take (j + 1)).length = j + 1 := by rw [List.length_take]; omega
   rw [List.take_append_of_le_length (by omega), List.take_take, Nat.min_eq_left (by omega), show j + 1 = (b.attrs.take (j + 1)).length from e1.symm, e1, List.drop_append_of_le_length (by omega), List.drop_eq_nil_of_le (by omega), List.nil_append]
theorem Jt {b : Bk} : ∀ j, j ≤ b.attrs.length → qv j (jl b j) = jl b 0 := by
 intro j
 induction j with
 | zero => intro _; rfl
 | succ j ih =>
  intro h
  show qv j (if eL (jl b (j + 1)).slots j = true then jl b (j + 1) else kS (jl b (j + 1)) j) = _
  rw [Jm j (by omega)]
  exact ih (by omega)
theorem yY {b : Bk} (h : RG b) (l : List Int) : qv b.attrs.length (relL b l).1 = mV b l := by
 have h1 := h.toRG0.relL l
 have h2 := (zv b l).1
 unfold mV
 rw [← h2, ← Jk (fun s hs => (h1.s0 s hs).1), ← Jt (b := (relL b l).1) _ (Nat.le_refl _), KD (fun s hs => (h1.s0 s hs).2)]
end Go.Proofs.Ytemhalnhbgkbcaa.V
end

section
namespace Go.Proofs.Ytemhalnhbgkbcaa.V
theorem bS {P : Program} {ops : Array Oper} {Q : Exit → Act → World → Prop} {oi : Oper} {a : Act} {w : World} {K : Act → World → Prop} (hw : Region.wanted oi (yielded ops a.tmps) = true) (hN : oi.dst = none) (ty : TypeId) (x y : Operand) (ho : oi.op = .store ty x y)
  (g : Nat) (cs : List Value) (hx : a.eval x = .pointer (some ⟨g, 0, none⟩)) (hy : a.eval y = .agg cs.toArray)
  (t : Nat) (td : List Value) (hb : aX w g td t) (n : Nat) (hi : (P.info? ty).map (·.size) = some n) (hn : cs.length = n) (hold : td.length = n) (h1 : ∀ v ∈ cs, v.oneCell' = true)
  (h : ∀ W1, aX W1 g cs t → w.grownBy W1 (some g) → K a W1) : if Region.wanted oi (yielded ops a.tmps) = true then Oper.wp P oi a w K Q else K (a.put none undef) w := by
 have hrun : (execOp a.eval oi).run P w = .ok .skip (w.setRow g cs.toArray) := by
  unfold execOp
  simp only [ho, hx, hy, Instr.storeAt, Instr.sureAddr, Sem.run_bind, Sem.run_pure, Result.andThen_ok, run_storeVar_row w g t ty td.toArray cs.toArray hb (by rw [hi]; simp [hn]) (by simp; omega) (by rw [Array.all_eq_true_iff_forall_mem]; intro v hv; exact h1 v (by simpa using hv))]
 exact rm hw hN hrun (h _ (setRow_heap w g td.toArray cs.toArray t (0, 0) hb) (xd w g _))
theorem eJ {P : Program} {ops : Array Oper} {Q : Exit → Act → World → Prop} {oi : Oper} {a : Act} {w : World} {K : Act → World → Prop} (hw : Region.wanted oi (yielded ops a.tmps) = true) (ty : TypeId) (ho : oi.op = .alloc ty) (cs : List Value) (hz : ∀ w, (zeroValue ty).run P w = .ok (.agg cs.toArray) w)
  (h : ∀ g W1, w.heap.size ≤ g → aX W1 g cs ty → Below w.heap.size w W1 → K (a.put oi.dst (.pointer (some ⟨g, 0, none⟩))) W1) : if Region.wanted oi (yielded ops a.tmps) = true then Oper.wp P oi a w K Q else K (a.put oi.dst undef) w := by
 have := h w.heap.size (w.alloc (.cells cs.toArray ty)) (Nat.le_refl _) (heap_alloc_new w _) (af (Below.refl _ _) _)
 rw [if_pos hw]
 unfold Oper.wp execOp
 simp only [ho, Instr.alloc, newVar, newRow, newObj, Value.cells, Sem.run_bind, hz, Result.andThen_ok]
 exact this
end Go.Proofs.Ytemhalnhbgkbcaa.V
end

section
namespace Go.Proofs.Ytemhalnhbgkbcaa.V
set_option maxHeartbeats 16000000 in
set_option maxRecDepth 100000 in
theorem H2 (b : Bk) (hk : BkOk b) (x q : Int) (pb : Bool) (a : At) (hpl : ∀ (v : Value) (w : World), jb w v b → Calls Try.prog 92 #[v, .int .u32 x] w fun e w' => e = .returned (.tuple #[.int .i64 q, .bool pb]) ∧ Below w.heap.size w w') (hno : (eE b && (fj a && pb)) = false) (v : Value) (w : World) (h : jb w v b) :
  Calls Try.prog 51 #[v, .int .u32 x, fv a] w fun e w' => ∃ v', e = .returned (.tuple #[v', .int .i64 1]) ∧ eP w' w.heap.size v' kC ∧ Below w.heap.size w w' := by
 obtain ⟨A, c, A', c', rfl, hr⟩ := h
 have HL := ak hr.l64
 have HR := ak hr
 have HK := ak hk
 have an := ak (Below.refl w.heap.size w)
 have HPL := ak hpl
 clear hr hk hpl
 cases hrt : eE b with
 | false =>
  have HRT := ak hrt
  clear hrt hno
  go_enter Try.func51, Try.ntmps51
  go_wp2_with (first
   | (refine aV rfl 57 (.tmp 0) rfl _ rfl ?_; intro gX W1 J aa I; have cw := ge an J; have aA := ak (an.out.trans (I.mono an.out.size)); have au := ak (aa); clear J aa I an)
   | (refine aV rfl 85 (.tmp 2) rfl _ rfl ?_; intro gA W2 J aa I; have lI := ge aA J; have fq := ne au J; have aK := mv I aA; have aI := mv I au; have cX := ak (aa); clear J aa I aA au)
   | (refine aH (some 6) rfl rfl 57 rfl bu b6 ?_; intro gZ W3 J aa I; have ct := ge aK J; have aU := ne aI J; have ij := ne cX J; have aT := mv I aK; have aQ := mv I aI; have eg := mv I cX; have cD := ak (aa); clear J aa I aK aI cX)
   | ((with_reducible refine aJ (N := 11) rfl ?_); refine aN rfl 57 (.tmp 3) rfl gX rfl _ _ _ aQ.out Try.underlying57 rfl 68 (by kernel_rfl) (ao _ _ _ _ _ HL.out) ?_)
   | (go_at_call 92; refine (HPL.out _ _ ⟨A, c, A', c', rfl, HR.out.below aT.out⟩).mono ?_; rintro e W4 ⟨rfl, I⟩; have bq := mv I aT; have bg := mv I aQ; have eD := mv I eg; have bB := mv I cD; clear I aT aQ eg cD)
   | ((with_reducible refine aJ (N := 17) rfl ?_); obtain ⟨gI, J⟩ : ∃ g_, g_ = W4.heap.size := ⟨_, rfl⟩; rw [← J]; generalize cr : W4.alloc (.cells #[.int .i64 q] 3) = W5; have I : Below W4.heap.size W4 W5 := (by rw [← cr]; exact af (Below.refl _ _) _); have aa : aX W5 gI [.int .i64 q] 3 := (by rw [← cr, J]; exact heap_alloc_new W4 _); have gR : W4.heap.size ≤ gI := Nat.le_of_eq J.symm; have yn := ge bq gR; have nx := ne bg gR; have wm := ne eD gR; have wg := ne bB gR; have bE := mv I bq; have bz := mv I bg; have fB := mv I eD; have bY := mv I bB; have kA := ak (aa); clear cr I aa gR J bq bg eD bB; refine aN rfl 57 (.tmp 3) rfl gX rfl _ _ _ bz.out Try.underlying57 rfl 68 (by kernel_rfl) (ao _ _ _ _ _ HL.out) ?_)
   | (go_at_call 48; refine (e8 b HK.out _ _ ⟨A, c, A', c', rfl, HR.out.below bE.out⟩).mono ?_; rintro e W6 ⟨rfl, I⟩; rw [HRT.out]; have bZ := mv I bE; have bH := mv I bz; have gi := mv I fB; have cn := mv I bY; have kY := mv I kA; clear I bE bz fB bY kA)
   | (refine gz rfl 57 #[] rfl bu mD ?_)
   | (refine a7 rfl 57 (.tmp 6) (.tmp 29) rfl gZ bu rfl rfl 57 _ cn.out 68 (by kernel_rfl) rfl rfl jU ?_; intro W7 aa J; have eH := gb bZ ct J; have dP := gn bH aU J; have lq := gx gi cn J; have ep := ak (aa); have kJ := gx kY cn J; clear aa J bZ bH gi cn kY))
  exact bodyPost_ret (gB rfl _ _ gZ 57 _ (0, 0) _ rfl ep.out Try.underlying57 rfl (by simp only [List.size_toArray]; exact dc _ rfl)) rfl ⟨_, rfl, oC _ _, eH.out⟩
 | true =>
  have HRT := ak hrt
  cases hm : fj a with
  | false =>
   have HMY := ak hm
   clear hrt hno hm
   go_enter Try.func51, Try.ntmps51
   go_wp2_with (first
    | (refine aV rfl 57 (.tmp 0) rfl _ rfl ?_; intro gX W1 J aa I; have cw := ge an J; have aA := ak (an.out.trans (I.mono an.out.size)); have au := ak (aa); clear J aa I an)
    | (refine aV rfl 85 (.tmp 2) rfl _ rfl ?_; intro gA W2 J aa I; have lI := ge aA J; have fq := ne au J; have aK := mv I aA; have aI := mv I au; have cX := ak (aa); clear J aa I aA au)
    | (refine aH (some 6) rfl rfl 57 rfl bu b6 ?_; intro gZ W3 J aa I; have ct := ge aK J; have aU := ne aI J; have ij := ne cX J; have aT := mv I aK; have aQ := mv I aI; have eg := mv I cX; have cD := ak (aa); clear J aa I aK aI cX)
    | ((with_reducible refine aJ (N := 11) rfl ?_); refine aN rfl 57 (.tmp 3) rfl gX rfl _ _ _ aQ.out Try.underlying57 rfl 68 (by kernel_rfl) (ao _ _ _ _ _ HL.out) ?_)
    | (go_at_call 92; refine (HPL.out _ _ ⟨A, c, A', c', rfl, HR.out.below aT.out⟩).mono ?_; rintro e W4 ⟨rfl, I⟩; have bq := mv I aT; have bg := mv I aQ; have eD := mv I eg; have bB := mv I cD; clear I aT aQ eg cD)
    | ((with_reducible refine aJ (N := 17) rfl ?_); obtain ⟨gI, J⟩ : ∃ g_, g_ = W4.heap.size := ⟨_, rfl⟩; rw [← J]; generalize cr : W4.alloc (.cells #[.int .i64 q] 3) = W5; have I : Below W4.heap.size W4 W5 := (by rw [← cr]; exact af (Below.refl _ _) _); have aa : aX W5 gI [.int .i64 q] 3 := (by rw [← cr, J]; exact heap_alloc_new W4 _); have gR : W4.heap.size ≤ gI := Nat.le_of_eq J.symm; have yn := ge bq gR; have nx := ne bg gR; have wm := ne eD gR; have wg := ne bB gR; have bE := mv I bq; have bz := mv I bg; have fB := mv I eD; have bY := mv I bB; have kA := ak (aa); clear cr I aa gR J bq bg eD bB; refine aN rfl 57 (.tmp 3) rfl gX rfl _ _ _ bz.out Try.underlying57 rfl 68 (by kernel_rfl) (ao _ _ _ _ _ HL.out) ?_)
    | (go_at_call 48; refine (e8 b HK.out _ _ ⟨A, c, A', c', rfl, HR.out.below bE.out⟩).mono ?_; rintro e W6 ⟨rfl, I⟩; rw [HRT.out]; have bZ := mv I bE; have bH := mv I bz; have gi := mv I fB; have cn := mv I bY; have kY := mv I kA; clear I bE bz fB bY kA)
    | ((with_reducible refine aJ (N := 21) rfl ?_); refine fk (by rfl) ?_; refine aN rfl 85 (.tmp 5) rfl gA rfl _ _ _ gi.out Try.underlying85 rfl 2 (by kernel_rfl) rfl ?_)
    | (go_at_call 88; refine (kv a _).mono ?_; rintro e W7 ⟨rfl, I⟩; rw [HMY.out]; have eH := mv I bZ; have dP := mv I bH; have lq := mv I gi; have ep := mv I cn; have kJ := mv I kY; clear I bZ bH gi cn kY)
    | (refine gz rfl 57 #[] rfl bu mD ?_)
    | (refine a7 rfl 57 (.tmp 6) (.tmp 29) rfl gZ bu rfl rfl 57 _ ep.out 68 (by kernel_rfl) rfl rfl jU ?_; intro W8 aa J; have gJ := gb eH ct J; have gH := gn dP aU J; have Fc := gx lq ep J; have gG := ak (aa); have uJ := gx kJ ep J; clear aa J eH dP lq ep kJ))
   exact bodyPost_ret (gB rfl _ _ gZ 57 _ (0, 0) _ rfl gG.out Try.underlying57 rfl (by simp only [List.size_toArray]; exact dc _ rfl)) rfl ⟨_, rfl, oC _ _, gJ.out⟩
  | true =>
   have HMY := ak hm
   rw [hrt, hm] at hno
   obtain rfl : pb = false := by simpa using hno
   clear hrt hno hm
   go_enter Try.func51, Try.ntmps51
   go_wp2_with (first
    | (refine aV rfl 57 (.tmp 0) rfl _ rfl ?_; intro gX W1 J aa I; have cw := ge an J; have aA := ak (an.out.trans (I.mono an.out.size)); have au := ak (aa); clear J aa I an)
    | (refine aV rfl 85 (.tmp 2) rfl _ rfl ?_; intro gA W2 J aa I; have lI := ge aA J; have fq := ne au J; have aK := mv I aA; have aI := mv I au; have cX := ak (aa); clear J aa I aA au)
    | (refine aH (some 6) rfl rfl 57 rfl bu b6 ?_; intro gZ W3 J aa I; have ct := ge aK J; have aU := ne aI J; have ij := ne cX J; have aT := mv I aK; have aQ := mv I aI; have eg := mv I cX; have cD := ak (aa); clear J aa I aK aI cX)
    | ((with_reducible refine aJ (N := 11) rfl ?_); refine aN rfl 57 (.tmp 3) rfl gX rfl _ _ _ aQ.out Try.underlying57 rfl 68 (by kernel_rfl) (ao _ _ _ _ _ HL.out) ?_)
    | (go_at_call 92; refine (HPL.out _ _ ⟨A, c, A', c', rfl, HR.out.below aT.out⟩).mono ?_; rintro e W4 ⟨rfl, I⟩; have bq := mv I aT; have bg := mv I aQ; have eD := mv I eg; have bB := mv I cD; clear I aT aQ eg cD)
    | ((with_reducible refine aJ (N := 17) rfl ?_); obtain ⟨gI, J⟩ : ∃ g_, g_ = W4.heap.size := ⟨_, rfl⟩; rw [← J]; generalize cr : W4.alloc (.cells #[.int .i64 q] 3) = W5; have I : Below W4.heap.size W4 W5 := (by rw [← cr]; exact af (Below.refl _ _) _); have aa : aX W5 gI [.int .i64 q] 3 := (by rw [← cr, J]; exact heap_alloc_new W4 _); have gR : W4.heap.size ≤ gI := Nat.le_of_eq J.symm; have yn := ge bq gR; have nx := ne bg gR; have wm := ne eD gR; have wg := ne bB gR; have bE := mv I bq; have bz := mv I bg; have fB := mv I eD; have bY := mv I bB; have kA := ak (aa); clear cr I aa gR J bq bg eD bB; refine aN rfl 57 (.tmp 3) rfl gX rfl _ _ _ bz.out Try.underlying57 rfl 68 (by kernel_rfl) (ao _ _ _ _ _ HL.out) ?_)
    | (go_at_call 48; refine (e8 b HK.out _ _ ⟨A, c, A', c', rfl, HR.out.below bE.out⟩).mono ?_; rintro e W6 ⟨rfl, I⟩; rw [HRT.out]; have bZ := mv I bE; have bH := mv I bz; have gi := mv I fB; have cn := mv I bY; have kY := mv I kA; clear I bE bz fB bY kA)
    | ((with_reducible refine aJ (N := 21) rfl ?_); refine fk (by rfl) ?_; refine aN rfl 85 (.tmp 5) rfl gA rfl _ _ _ gi.out Try.underlying85 rfl 2 (by kernel_rfl) rfl ?_)
    | (go_at_call 88; refine (kv a _).mono ?_; rintro e W7 ⟨rfl, I⟩; rw [HMY.out]; have eH := mv I bZ; have dP := mv I bH; have lq := mv I gi; have ep := mv I cn; have kJ := mv I kY; clear I bZ bH gi cn kY)
    | (refine gz rfl 57 #[] rfl bu mD ?_)
    | (refine a7 rfl 57 (.tmp 6) (.tmp 29) rfl gZ bu rfl rfl 57 _ ep.out 68 (by kernel_rfl) rfl rfl jU ?_; intro W8 aa J; have gJ := gb eH ct J; have gH := gn dP aU J; have Fc := gx lq ep J; have gG := ak (aa); have uJ := gx kJ ep J; clear aa J eH dP lq ep kJ))
   exact bodyPost_ret (gB rfl _ _ gZ 57 _ (0, 0) _ rfl gG.out Try.underlying57 rfl (by simp only [List.size_toArray]; exact dc _ rfl)) rfl ⟨_, rfl, oC _ _, gJ.out⟩
set_option maxHeartbeats 16000000 in
set_option maxRecDepth 100000 in
theorem B0 (b : Bk) (hk : BkOk b) (x : Int) (j : Nat) (hj : j < 64) (a : At) (hpl : ∀ (v : Value) (w : World), jb w v b → Calls Try.prog 92 #[v, .int .u32 x] w fun e w' => e = .returned (.tuple #[.int .i64 (j : Int), .bool true]) ∧ Below w.heap.size w w') (hrt : eE b = true) (hm : fj a = true) (hne : (b.slots.getD j 0 != 0) = true) (v : Value) (w : World) (h : jb w v b) :
  Calls Try.prog 51 #[v, .int .u32 x, fv a] w fun e w' => ∃ v', e = .returned (.tuple #[v', .int .i64 11]) ∧ eP w' w.heap.size v' kC ∧ Below w.heap.size w w' := by
 obtain ⟨A, c, A', c', rfl, hr⟩ := h
 have HL := ak hr.l64
 have HR := ak hr
 have HK := ak hk
 have an := ak (Below.refl w.heap.size w)
 have HPL := ak hpl
 have HRT := ak hrt
 have HMY := ak hm
 obtain ⟨m, hmm⟩ : ∃ m, b.slots.getD j 0 = m := ⟨_, rfl⟩
 have HM := ak hmm
 rw [hmm] at hne
 clear hr hk hpl hrt hm hmm
 go_enter Try.func51, Try.ntmps51
 go_wp2_with (first
  | (refine aV rfl 57 (.tmp 0) rfl _ rfl ?_; intro gX W1 J aa I; have cw := ge an J; have aA := ak (an.out.trans (I.mono an.out.size)); have au := ak (aa); clear J aa I an)
  | (refine aV rfl 85 (.tmp 2) rfl _ rfl ?_; intro gA W2 J aa I; have lI := ge aA J; have fq := ne au J; have aK := mv I aA; have aI := mv I au; have cX := ak (aa); clear J aa I aA au)
  | (refine aH (some 6) rfl rfl 57 rfl bu b6 ?_; intro gZ W3 J aa I; have ct := ge aK J; have aU := ne aI J; have ij := ne cX J; have aT := mv I aK; have aQ := mv I aI; have eg := mv I cX; have cD := ak (aa); clear J aa I aK aI cX)
  | ((with_reducible refine aJ (N := 11) rfl ?_); refine aN rfl 57 (.tmp 3) rfl gX rfl _ _ _ aQ.out Try.underlying57 rfl 68 (by kernel_rfl) (ao _ _ _ _ _ HL.out) ?_)
  | (go_at_call 92; refine (HPL.out _ _ ⟨A, c, A', c', rfl, HR.out.below aT.out⟩).mono ?_; rintro e W4 ⟨rfl, I⟩; have bq := mv I aT; have bg := mv I aQ; have eD := mv I eg; have bB := mv I cD; clear I aT aQ eg cD)
  | ((with_reducible refine aJ (N := 17) rfl ?_); obtain ⟨gI, J⟩ : ∃ g_, g_ = W4.heap.size := ⟨_, rfl⟩; rw [← J]; generalize cr : W4.alloc (.cells #[.int .i64 (j : Int)] 3) = W5; have I : Below W4.heap.size W4 W5 := (by rw [← cr]; exact af (Below.refl _ _) _); have aa : aX W5 gI [.int .i64 (j : Int)] 3 := (by rw [← cr, J]; exact heap_alloc_new W4 _); have gR : W4.heap.size ≤ gI := Nat.le_of_eq J.symm; have yn := ge bq gR; have nx := ne bg gR; have wm := ne eD gR; have wg := ne bB gR; have bE := mv I bq; have bz := mv I bg; have fB := mv I eD; have bY := mv I bB; have kA := ak (aa); clear cr I aa gR J bq bg eD bB; refine aN rfl 57 (.tmp 3) rfl gX rfl _ _ _ bz.out Try.underlying57 rfl 68 (by kernel_rfl) (ao _ _ _ _ _ HL.out) ?_)
  | (go_at_call 48; refine (e8 b HK.out _ _ ⟨A, c, A', c', rfl, HR.out.below bE.out⟩).mono ?_; rintro e W6 ⟨rfl, I⟩; rw [HRT.out]; have bZ := mv I bE; have bH := mv I bz; have gi := mv I fB; have cn := mv I bY; have kY := mv I kA; clear I bE bz fB bY kA)
  | ((with_reducible refine aJ (N := 21) rfl ?_); refine fk (by rfl) ?_; refine aN rfl 85 (.tmp 5) rfl gA rfl _ _ _ gi.out Try.underlying85 rfl 2 (by kernel_rfl) rfl ?_)
  | (go_at_call 88; refine (kv a _).mono ?_; rintro e W7 ⟨rfl, I⟩; rw [HMY.out]; have eH := mv I bZ; have dP := mv I bH; have lq := mv I gi; have ep := mv I cn; have kJ := mv I kY; have Kw := kJ.out.cell 0 _ rfl; have sF := (show W7.cell? ⟨gX, 2 + j, none⟩ = some (.int .u8 m) from by have h_ := dP.out.slot HL.out j hj; rwa [HM.out] at h_); clear I bZ bH gi cn kY)
  | (refine gz rfl 57 #[] rfl bu mD ?_)
  | (refine a7 rfl 57 (.tmp 6) (.tmp 36) rfl gZ bu rfl rfl 57 _ ep.out 68 (by kernel_rfl) rfl rfl jU ?_; intro W8 aa J; have gJ := gb eH ct J; have gH := gn dP aU J; have Fc := gx lq ep J; have gG := ak (aa); have uJ := gx kJ ep J; clear aa J eH dP lq ep kJ Kw sF))
 exact bodyPost_ret (gB rfl _ _ gZ 57 _ (0, 0) _ rfl gG.out Try.underlying57 rfl (by simp only [List.size_toArray]; exact dc _ rfl)) rfl ⟨_, rfl, oC _ _, gJ.out⟩
def qS.T7 : Bool × List (List Nat × List Nat) := (true, [([], []), ([], []), ([1], [1]), ([], []), ([3, 0, 0, 1, 2], [0, 3]), ([4, 2, 2, 0, 1, 2], [2, 4])])
def qS.B7 : List Nat := [0, 0, 2, 0, 15, 31]
theorem qS.tab7 : eI .any (opsOf Try.f51 7) = qS.T7 := by kernel_rfl
theorem qS.bits7 : eb qS.T7.2 qS.B7 = true := by kernel_rfl
set_option maxHeartbeats 16000000 in
set_option maxRecDepth 100000 in
theorem EZ (b : Bk) (hk : BkOk b) (x : Int) (j : Nat) (hj : j < 64) (a : At) (hpl : ∀ (v : Value) (w : World), jb w v b → Calls Try.prog 92 #[v, .int .u32 x] w fun e w' => e = .returned (.tuple #[.int .i64 (j : Int), .bool true]) ∧ Below w.heap.size w w') (hrt : eE b = true) (hm : fj a = true) (hz : b.slots.getD j 0 = 0) (v : Value) (w : World) (h : jb w v b) :
  Calls Try.prog 51 #[v, .int .u32 x, fv a] w fun e w' => ∃ v', e = .returned (.tuple #[v', .int .i64 0]) ∧ eP w' w.heap.size v' (gE b j a) ∧ Below w.heap.size w w' := by
 obtain ⟨A, c, A', c', rfl, hr⟩ := h
 have HL := ak hr.l64
 have HR := ak hr
 have HK := ak hk
 have an := ak (Below.refl w.heap.size w)
 have HPL := ak hpl
 have hp := jD hrt
 have hsum := hp.sum_le hk HL.out
 have HRT := ak hrt
 have HMY := ak hm
 have HM := ak hz
 have HFL := ak (show b.free.length ≤ 64 by omega)
 have HAL := ak (show b.attrs.length ≤ 100 by omega)
 have HCP := ak (nO b (by omega) (by omega))
 clear hr hk hpl hrt hm hz hp hsum
 go_enter Try.func51, Try.ntmps51
 go_wp2_with (first
  | (refine aV rfl 57 (.tmp 0) rfl _ rfl ?_; intro gX W1 J aa I; have cw := ge an J; have aA := ak (an.out.trans (I.mono an.out.size)); have au := ak (aa); clear J aa I an)
  | (refine aV rfl 85 (.tmp 2) rfl _ rfl ?_; intro gA W2 J aa I; have lI := ge aA J; have fq := ne au J; have aK := mv I aA; have aI := mv I au; have cX := ak (aa); clear J aa I aA au)
  | (refine aH (some 6) rfl rfl 57 rfl bu b6 ?_; intro gZ W3 J aa I; have ct := ge aK J; have aU := ne aI J; have ij := ne cX J; have aT := mv I aK; have aQ := mv I aI; have eg := mv I cX; have cD := ak (aa); clear J aa I aK aI cX)
  | ((with_reducible refine aJ (N := 11) rfl ?_); refine aN rfl 57 (.tmp 3) rfl gX rfl _ _ _ aQ.out Try.underlying57 rfl 68 (by kernel_rfl) (ao _ _ _ _ _ HL.out) ?_)
  | (go_at_call 92; refine (HPL.out _ _ ⟨A, c, A', c', rfl, HR.out.below aT.out⟩).mono ?_; rintro e W4 ⟨rfl, I⟩; have bq := mv I aT; have bg := mv I aQ; have eD := mv I eg; have bB := mv I cD; clear I aT aQ eg cD)
  | ((with_reducible refine aJ (N := 17) rfl ?_); obtain ⟨gI, J⟩ : ∃ g_, g_ = W4.heap.size := ⟨_, rfl⟩; rw [← J]; generalize cr : W4.alloc (.cells #[.int .i64 (j : Int)] 3) = W5; have I : Below W4.heap.size W4 W5 := (by rw [← cr]; exact af (Below.refl _ _) _); have aa : aX W5 gI [.int .i64 (j : Int)] 3 := (by rw [← cr, J]; exact heap_alloc_new W4 _); have gR : W4.heap.size ≤ gI := Nat.le_of_eq J.symm; have yn := ge bq gR; have nx := ne bg gR; have wm := ne eD gR; have wg := ne bB gR; have bE := mv I bq; have bz := mv I bg; have fB := mv I eD; have bY := mv I bB; have kA := ak (aa); clear cr I aa gR J bq bg eD bB; refine aN rfl 57 (.tmp 3) rfl gX rfl _ _ _ bz.out Try.underlying57 rfl 68 (by kernel_rfl) (ao _ _ _ _ _ HL.out) ?_)
  | (go_at_call 48; refine (e8 b HK.out _ _ ⟨A, c, A', c', rfl, HR.out.below bE.out⟩).mono ?_; rintro e W6 ⟨rfl, I⟩; rw [HRT.out]; have bZ := mv I bE; have bH := mv I bz; have gi := mv I fB; have cn := mv I bY; have kY := mv I kA; clear I bE bz fB bY kA)
  | ((with_reducible refine aJ (N := 21) rfl ?_); refine fk (by rfl) ?_; refine aN rfl 85 (.tmp 5) rfl gA rfl _ _ _ gi.out Try.underlying85 rfl 2 (by kernel_rfl) rfl ?_)
  | (go_at_call 88; refine (kv a _).mono ?_; rintro e W7 ⟨rfl, I⟩; rw [HMY.out]; have eH := mv I bZ; have dP := mv I bH; have lq := mv I gi; have ep := mv I cn; have kJ := mv I kY; have Kw := kJ.out.cell 0 _ rfl; have sF := (show W7.cell? ⟨gX, 2 + j, none⟩ = some (.int .u8 0) from by have h_ := dP.out.slot HL.out j hj; rwa [HM.out] at h_); clear I bZ bH gi cn kY)
  | ((with_reducible refine aJ (N := 37) rfl ?_); refine aN rfl 57 (.tmp 3) rfl gX rfl _ _ _ dP.out Try.underlying57 rfl 68 (by kernel_rfl) (ao _ _ _ _ _ HL.out) ?_)
  | (go_at_call 89; refine (HCP.out _ _ ⟨A, c, A', c', rfl, HR.out.below eH.out⟩).mono ?_; rintro e W8 ⟨v5, rfl, xw, I⟩; obtain ⟨xy, vf, va, rfl, nn, nr⟩ := xw; obtain ⟨Af, cf, rfl⟩ := Kd.R_slice nn; obtain ⟨Aa, ca, rfl⟩ := Kd.R_slice nr; have HSZ := ak eH.out.size; have wo := ak (show gX < W7.heap.size from dP.out.lt); have pL := ak (show gA < W7.heap.size from lq.out.lt); have pK := ak (show gZ < W7.heap.size from ep.out.lt); have LR := ak (show gI < W7.heap.size from kJ.out.lt); have gJ := mv I eH; have gH := mv I dP; have Fc := mv I lq; have gG := mv I ep; have uJ := mv I kJ; have jw := ak (nn); have jv := ak (nr); have kI := ak (I.size); clear xy nn nr I eH dP lq ep kJ Kw sF)
  | (refine a7 rfl 57 (.tmp 3) (.tmp 38) rfl gX (bk b.addr b.aff b.slots (.slice Af b.free.length cf) (.slice Aa b.attrs.length ca)) rfl rfl 57 _ gH.out 68 (by kernel_rfl) (ao _ _ _ _ _ HL.out) (ao _ _ _ _ _ HL.out) (cA _ _ _ _ _ rfl rfl) ?_; intro W9 aa J; have lp := gb gJ cw J; have ln := ak (OC.stored HL.out gH.out aa jw.out jv.out J); have R5 := gx Fc gH J; have kW := gm gG aU J; have E9 := gx uJ gH J; have oT := gr jw gH J; have oS := gr jv gH J; have mj := ak (Nat.le_trans kI.out J.size); clear aa J gJ gH Fc gG uJ jw jv kI))
 obtain ⟨b1, cI⟩ : ∃ b1, b1 = W7.heap.size := ⟨_, rfl⟩
 rw [← cI] at ln mj wo pL pK LR HSZ
 have cG := ak (show w.heap.size ≤ b1 from HSZ.out)
 clear cI HSZ
 have aq : Below W9.heap.size W9 W9.drew := bL (Below.refl _ _)
 have nY := mv aq lp; have nU := mv aq ln; have Ib := mv aq R5; have oE := mv aq kW; have tY := mv aq E9; have pP := ak (Nat.le_trans mj.out aq.size)
 clear aq lp ln R5 kW E9 mj
 have pj : ((j : Int) < 64) = True := eq_true (by omega)
 refine dR (n := 6) (S := fun w' => w'.cell? ⟨gI, 0, none⟩ = some (.int .i64 (j : Int)) ∧ w'.cell? ⟨gA, 0, none⟩ = some (.string a.f0) ∧ w'.cell? ⟨gA, 1, none⟩ = some (.string a.f1)) (ds := [5]) #[false, false, false, false, false, false] (by kernel_rfl) rfl rfl ⟨tY.out.cell 0 _ rfl, Ib.out.cell 0 _ rfl, Ib.out.cell 1 _ rfl⟩ (fun hHeld => ?_); refine b5 qS.tab7 qS.bits7 (fun ag bM => ?_)
 refine tk 0 ag.out bM.out hHeld ?_ (hv := by intro w' bj; obtain ⟨s0, s1, s2⟩ := bj; go_simp; with_reducible rfl)
 refine tk 1 ag.out bM.out hHeld ?_ (hv := by intro w' bj; obtain ⟨s0, s1, s2⟩ := bj; go_simp; with_reducible rfl)
 refine pu 3 ag.out ?_
 refine on 2 ag.out (fun K hK => ?_)
 refine gs Try.func90 #[.pointer (some ⟨gX, 0, none⟩), .agg #[.string a.f0, .string a.f1]] (rp b HAL.out a gX b1 w.heap.size _ cw.out cG.out pP.out nU.out) ?_
 rintro e V1 ⟨rfl, bc, I, dS⟩
 refine ⟨_, rfl, ?_⟩
 obtain ⟨Sc, Rc, R9, Rb, jX, _, _⟩ := nU.out.open; have ur := ak (nY.out.trans I); have pN := ak (bc); have Dg := ak (aX.added Ib.out (Ne.symm fq.out) pL.out dS); have tz := ak (aX.added oE.out (Ne.symm aU.out) pK.out dS); have rJ := ak (aX.added tY.out (Ne.symm nx.out) LR.out dS); have tL := ak (Nat.le_trans pP.out dS.1); clear bc I dS
 refine kn hK ⟨rJ.out.cell 0 _ rfl, Dg.out.cell 0 _ rfl, Dg.out.cell 1 _ rfl⟩ (fun hHeld => ?_)
 clear hK K
 refine pu 4 ag.out ?_
 refine vW (i := 5) (N := none) #[true, true, true, true, true, true] rfl rfl (ph ag.out (by kernel_rfl)) (by decide) (fun K hK => ?_)
 have oz := (show OC V1 b1 gX ⟨b.addr, b.aff, b.slots, b.free, eZ b.attrs a⟩ from pN.out).slotCell j hj; have ox := pN.out.frozen (2 + j)
 refine rm (w1 := ?_) (by rfl) rfl ?_ ?_
 rotate_left
 ·go_simp
  rfl
 refine hK.out _ _ ?_
 clear hK K
 refine dn ag.out ?_
 clear oz ox hHeld
 obtain ⟨_, _, _, _, jX, _, _⟩ := pN.out.open; generalize cr : V1.setCell ⟨gX, 2 + j, none⟩ (.int .u8 (ft b.attrs a : Nat)) = LO; have J : V1.grownBy LO (some gX) := (by rw [← cr]; exact bP _ _ _ _); have uq := gb ur cw J; have pM := ak (OC.slot pN.out j hj (ft b.attrs a : Nat)); have af6 := gm Dg fq J; have rD := gm tz aU J; have qB := gm rJ nx J; have rH := ak (Nat.le_trans tL.out J.size); rw [cr] at pM; clear cr J ur pN Dg tz rJ tL jX
 obtain ⟨bm, hbm⟩ : ∃ bm : Bk, bm = ⟨b.addr, b.aff, b.slots.set j (ft b.attrs a : Nat), b.free, eZ b.attrs a⟩ := ⟨_, rfl⟩
 have HGV := ak (show gE b j a = ⟨bm.addr, bm.aff, bm.slots, bm.free.filter (g7 (j : Int)), bm.attrs⟩ by rw [hbm]; rfl)
 have HFR := ak (show bm.free = b.free by rw [hbm])
 rw [← hbm] at pM
 clear hbm
 obtain ⟨A1, c1, A2, c2, hxx, np, my⟩ := pM.out.open
 have QL := hxx.cell 66 _ (gF _ _ _ _ _ pM.out.l64)
 have tW := ak pM.out.l64
 have HXX := ak hxx
 have j3 := ak np
 have kZ := ak my
 clear hxx np my
 obtain ⟨fd, hfd⟩ : ∃ fd, fd = bm.free.filter (g7 (j : Int)) := ⟨_, rfl⟩
 have HFD := ak hfd
 clear hfd
 go_wp2_with (first
  | (go_at_call 93; refine (BU bm.free (by rw [HFR.out]; exact HK.out.f8) (by rw [HFR.out]; have := HFL.out; omega) A1 c1 (j : Int) gI b1 _ j3.out qB.out rH.out).mono ?_; rintro e V3 ⟨v3, rfl, bc, I, dS⟩; have Bw := ak (uq.out.trans (I.mono cG.out)); have qz := ak (aX.keeps HXX.out dS (HXX.out.ne_row j3.out (by decide))); have zU := ak (aX.keeps rD.out dS (rD.out.ne_row j3.out (by decide))); have AP := ak (aX.keeps qB.out dS (qB.out.ne_row j3.out (by decide))); have Ae := ak (Nat.le_trans rH.out dS.1); have Bb := ak (bc); have AT := ak (Kd.R_keptrow kZ.out j3.out (by decide) dS); rw [← HFD.out] at bc; obtain ⟨A3, c3, rfl⟩ := Kd.R_slice bc; have oz := qz.out.cell 66 _ (gF _ _ _ _ _ tW.out); have ox := qz.out.frozen 66; clear QL bc I dS uq HXX rD qB rH j3 kZ)
  | ((with_reducible refine aJ (N := 49) rfl ?_); generalize cr : V3.setCell ⟨gX, 66, none⟩ (.slice A3 fd.length c3) = Z3; have J : V3.grownBy Z3 (some gX) := (by rw [← cr]; exact bP _ _ _ _); have Bv := gb Bw cw J; have tG := ak (qz.out.set 66 (.slice A3 fd.length c3)); have tx := gm zU aU J; have AN := gx AP qz J; have Ad := ak (Nat.le_trans Ae.out J.size); have A6 := gr Bb qz J; have AS := gr AT qz J; rw [cr] at tG; clear cr J Bw qz zU AP Ae Bb AT oz ox; rw [me _ _ _ _ _ tW.out] at tG; refine aN rfl 57 (.tmp 3) rfl gX rfl _ _ _ tG.out Try.underlying57 rfl 68 (by kernel_rfl) (ao _ _ _ _ _ tW.out) ?_)
  | (refine a7 rfl 57 (.tmp 6) (.tmp 49) rfl gZ (bk bm.addr bm.aff bm.slots (.slice A3 fd.length c3) (.slice A2 bm.attrs.length c2)) rfl rfl 57 _ tx.out 68 (by kernel_rfl) (ao _ _ _ _ _ tW.out) rfl (cA _ _ _ _ _ rfl rfl) ?_; intro W15 aa J; have Tr := gb Bv ct J; have af3 := gn tG aU J; have To := ak (aa); have af5 := gx AN tx J; have af4 := ak (Nat.le_trans Ad.out J.size); have Tq := gr A6 tx J; have Tp := gr AS tx J; clear aa J Bv tG tx AN Ad A6 AS))
 refine bodyPost_ret (gB rfl _ _ gZ 57 _ (0, 0) _ rfl To.out Try.underlying57 rfl (by simp only [List.size_toArray]; exact dc _ (ao _ _ _ _ _ tW.out))) rfl ⟨_, rfl, ?_, Tr.out⟩
 have hff := Tq.out
 rw [← HFD.out] at hff
 rw [HGV.out, ← HFD.out]
 exact ⟨tW.out, _, _, rfl, Kd.R_lower hff cG.out, Kd.R_lower Tp.out cG.out⟩
def q8 (b : Bk) (x : Int) (a : At) : Bool := eE b && (fj a && decide (cC x = b.addr))
def qk (b : Bk) (x : Int) : Bool := b.slots.getD (x - b.addr).toNat 0 != 0
def sO (b : Bk) (x : Int) (a : At) : Int := if q8 b x a = true then (if qk b x = true then 11 else 0) else 1
def oL (b : Bk) (x : Int) (a : At) : Bk := if q8 b x a = true then (if qk b x = true then kC else gE b (x - b.addr).toNat a) else kC
theorem pH (b : Bk) (hk : BkOk b) (x : Int) (h0 : 0 ≤ x) (h1 : x < 4294967296) (a : At) (v : Value) (w : World) (h : jb w v b) :
  Calls Try.prog 51 #[v, .int .u32 x, fv a] w fun e w' => ∃ v', e = .returned (.tuple #[v', .int .i64 (sO b x a)]) ∧ eP w' w.heap.size v' (oL b x a) ∧ Below w.heap.size w w' := by
 have hpl := fun v w h => Cl b hk x h0 h1 v w h
 cases ho : q8 b x a with
 | false =>
  have e1 : sO b x a = 1 := by unfold sO; rw [ho]; rfl
  have e2 : oL b x a = kC := by unfold oL; rw [ho]; rfl
  rw [e1, e2]
  exact H2 b hk x _ _ a hpl ho v w h
 | true =>
  have ho' := ho
  unfold q8 at ho'
  simp only [Bool.and_eq_true, decide_eq_true_eq] at ho'
  obtain ⟨hr, hm, hf⟩ := ho'
  have hj : (x - b.addr).toNat < 64 ∧ ((x - b.addr).toNat : Int) = x - b.addr := by
   unfold cC at hf
   omega
  rw [if_pos hf, decide_eq_true hf, ← hj.2] at hpl
  cases ht : qk b x with
  | true =>
   have e1 : sO b x a = 11 := by unfold sO; rw [ho, ht]; rfl
   have e2 : oL b x a = kC := by unfold oL; rw [ho, ht]; rfl
   rw [e1, e2]
   exact B0 b hk x _ hj.1 a hpl hr hm ht v w h
  | false =>
   have e1 : sO b x a = 0 := by unfold sO; rw [ho, ht]; rfl
   have e2 : oL b x a = gE b (x - b.addr).toNat a := by unfold oL; rw [ho, ht]; rfl
   rw [e1, e2]
   exact EZ b hk x _ hj.1 a hpl hr hm (by unfold qk at ht; simpa using ht) v w h
end Go.Proofs.Ytemhalnhbgkbcaa.V
end

section
namespace Go.Proofs.Ytemhalnhbgkbcaa.V
theorem IZ (f0 f1 : ByteArray) (h0 : f0.size ≤ 9223372036854775807) (h1 : f1.size ≤ 9223372036854775807) (k : Nat) (hk : 9223372036854775808 ≤ k) : bN.f k f0 f1 = some (fj ⟨f0, f1⟩) := by
 unfold bN.f fj
 rw [yb f0 h0 k (by omega), Option.bind_some]
 cases hr : fX f0 with
 | true => rw [if_pos rfl, yb f1 h1 k (by omega), Option.bind_some, Bool.true_and]
 | false => rw [if_neg (by decide), Bool.false_and]
theorem Fx (s : ByteArray) (hs : s.size ≤ 9223372036854775807) (k : Nat) (hk : 9223372036854775808 ≤ k) : bx.f k s = some (gg s) := by
 unfold bx.f gg
 by_cases h0 : s.toList = []
 ·rw [if_pos h0]; simp [h0]
 ·rw [if_neg h0, yb s hs k (by omega), Option.bind_some]; simp [h0]
section
variable (addr : Int) (aff : ByteArray) (sl fr : List Int) (M : List S76)
end
end Go.Proofs.Ytemhalnhbgkbcaa.V
end

section
namespace Go.Proofs.Ytemhalnhbgkbcaa.V
set_option maxHeartbeats 4000000 in
set_option maxRecDepth 100000 in
theorem oH (v : Value) (w : World) (h : jb w v kC) : Calls Try.prog 43 #[v] w fun e w' => e = .returned (.bool true) ∧ Below w.heap.size w w' := by
 have hzv := fun W => (oC W 0).toV
 have hsm := J1 kC (by decide) (by decide)
 have hl : kC.slots.length = 64 := rfl
 generalize kC = z at h hzv hsm hl
 obtain ⟨A, c, A', c', rfl, hr⟩ := h
 have HR := ak hr
 have HZV := ak hzv
 have HSM := ak hsm
 have HL := ak hl
 clear hzv hsm hl hr
 go_enter Try.func43, Try.ntmps43
 go_wp2_with (first
  | (refine aV rfl 57 (.tmp 0) rfl _ rfl ?_; intro g W1 hg hbx cI; have gl := ak hbx; have mG := ak (HR.out.below cI); have cG := ak cI; clear hbx cI hg)
  | (refine aN rfl 57 (.tmp 1) rfl g rfl _ _ _ gl.out Try.underlying57 rfl 68 (by kernel_rfl) (ao _ _ _ _ _ HL.out) ?_)
  | (refine gz rfl 57 #[] rfl bu mD ?_)
  | (go_at_call 40; refine (HSM.out _ _ _ ⟨A, c, A', c', rfl, mG.out⟩ (HZV.out _)).mono ?_; rintro e W2 ⟨rfl, eX⟩; have jk := ak (cG.out.trans (eX.mono cG.out.size)); clear eX))
 go_ret
 exact ⟨rfl, jk.out⟩
end Go.Proofs.Ytemhalnhbgkbcaa.V
end

