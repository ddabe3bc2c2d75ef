/- The law BlockTells for every input: texts of ours, put together (part 8 of 16). No further condition. -/
import Derived.Test.YtemhalnhbgkbcaaCBlockTellsx2
import Derived.Test.YtemhalnhbgkbcaaCBlockTellsx6
import Derived.Test.YtemhalnhbgkbcaaCBlockTellsx4
import Derived.Test.YtemhalnhbgkbcaaCBlockTellsx3
import Derived.Outline
import Derived.Test.YtemhalnhbgkbcaaCBlockTellsx5
import Derived.Test.YtemhalnhbgkbcaaCBlockTellsw0
set_option linter.unusedVariables false
set_option linter.unusedSimpArgs false
open Go.RowKit Go.Proofs.YtemhalnhbgkbcaaW.PrintWords Go.Proofs.YtemhalnhbgkbcaaW.PrintLast Go.Proofs.YtemhalnhbgkbcaaW.PrintMore Go.Proofs.Ytemhalnhbgkbcaa.Z
section
namespace Go.Proofs.Ytemhalnhbgkbcaa.V
theorem MH (s : Nat) (hs : s < 18446744073709551616) (i : Int) (w : World) : Calls Try.prog 21 #[.int .u64 (s : Int), .int .i64 i] w fun e w' => e = .returned (.int .u64 ((lB s i : Nat) : Int)) ∧ Below w.heap.size w w' :=
 (vN s hs i w).mono (by
  rintro e w' ⟨rfl, ⟨nd, rfl⟩⟩
  exact ⟨rfl, af (Below.refl _ _) nd⟩)
theorem Hn (s : Nat) (hs : s < 18446744073709551616) (i : Int) (w : World) : Calls Try.prog 20 #[.int .u64 (s : Int), .int .i64 i] w fun e w' => e = .returned (.bool (hasB s i)) ∧ Below w.heap.size w w' :=
 (uX s hs i w).mono (by
  rintro e w' ⟨rfl, ⟨nd, rfl⟩⟩
  exact ⟨rfl, af (Below.refl _ _) nd⟩)
theorem Er (l : List Int) (k : Nat) (h : k < l.length) (m : Int) (hm : l[k] = m) : lB (fT (l.take k)) (m - 1) = fT (l.take (k + 1)) := by
 unfold fT ua
 rw [List.take_succ_eq_append_getElem h, List.map_append, List.foldl_append, hm]
 rfl
theorem Gz (l : List Int) (k : Nat) (hk : k < 64) : hasB (fT l) (k : Int) = dL l k := by
 have h1 : (fT l).testBit k = decide ((k : Int) ∈ l.map (fun s => s - 1)) := oE _ k hk
 have h2 : hasB (fT l) (k : Int) = (fT l).testBit k := by
  unfold hasB l8
  have e1 : decide ((0 : Int) ≤ (k : Int)) = true := by simp
  have e2 : decide ((k : Int) < 64) = true := by simp; omega
  rw [e1, e2]
  simp
 rw [h2, h1]
 unfold dL
 rw [Bool.eq_iff_iff, decide_eq_true_eq, List.any_eq_true, List.mem_map]
 constructor
 ·rintro ⟨s, hs, he⟩
  exact ⟨s, hs, by rw [beq_iff_eq]; omega⟩
 ·rintro ⟨s, hs, he⟩
  rw [beq_iff_eq] at he
  exact ⟨s, hs, by omega⟩
def lf (l : List Int) (k s : Nat) : Int := if 1 ≤ s ∧ s ≤ k ∧ dL l (s - 1) = true then ((ft l s : Nat) : Int) else 0
def g7 (l : List Int) (k : Nat) : List Int := (List.range 65).map (lf l k)
theorem sq (l : List Int) (k : Nat) : (g7 l k).length = 65 := by simp [g7]
theorem Ad (l : List Int) : g7 l 0 = List.replicate 65 0 := by
 unfold g7
 rw [List.eq_replicate_iff]
 refine ⟨by simp, fun x hx => ?_⟩
 obtain ⟨s, _, rfl⟩ := List.mem_map.1 hx
 unfold lf
 rw [if_neg (by omega)]
theorem Cu (l : List Int) (k s : Nat) (hs : s < 65) : (g7 l k).getD s 0 = lf l k s := by
 unfold g7
 rw [List.getD_eq_getElem?_getD, List.getElem?_map, List.getElem?_range hs]
 rfl
theorem Ae (l : List Int) (k : Nat) (hk : k < 64) (h : dL l k = true) : (g7 l k).set (k + 1) ((ft l (k + 1) : Nat) : Int) = g7 l (k + 1) := by
 apply List.ext_getElem?
 intro s
 rw [List.getElem?_set]
 unfold g7
 simp only [List.length_map, List.length_range, List.getElem?_map]
 by_cases hs : k + 1 = s
 ·subst hs
  rw [if_pos rfl, if_pos (by omega), List.getElem?_range (by omega)]
  show some _ = some (lf l (k + 1) (k + 1))
  unfold lf
  rw [if_pos ⟨by omega, by omega, h⟩]
 ·rw [if_neg hs]
  rcases Nat.lt_or_ge s 65 with h1 | h1
  ·rw [List.getElem?_range h1]
   show some (lf l k s) = some (lf l (k + 1) s)
   unfold lf
   by_cases h2 : 1 ≤ s ∧ s ≤ k ∧ dL l (s - 1) = true
   ·rw [if_pos h2, if_pos ⟨h2.1, by omega, h2.2.2⟩]
   ·rw [if_neg h2, if_neg (fun h3 => h2 ⟨h3.1, by omega, h3.2.2⟩)]
  ·rw [List.getElem?_eq_none (by simpa using h1)]
   rfl
theorem Ct (l : List Int) (k : Nat) (h : dL l k = false) : g7 l (k + 1) = g7 l k := by
 unfold g7
 apply List.map_congr_left
 intro s _
 unfold lf
 by_cases h2 : 1 ≤ s ∧ s ≤ k ∧ dL l (s - 1) = true
 ·rw [if_pos h2, if_pos ⟨h2.1, by omega, h2.2.2⟩]
 ·rw [if_neg h2, if_neg (fun h3 => h2 ⟨h3.1, by
   rcases Nat.lt_or_ge k s with h4 | h4
   ·exfalso
    have : s - 1 = k := by omega
    rw [this, h] at h3
    exact absurd h3.2.2 (by decide)
   ·exact h4, h3.2.2⟩)]
theorem pS (l : List Int) (s : Int) (h : s ∈ l) (h0 : 1 ≤ s) : dL l (s.toNat - 1) = true := by
 unfold dL
 rw [List.any_eq_true]
 exact ⟨s, h, by rw [beq_iff_eq]; omega⟩
theorem Cs (l : List Int) (k : Nat) (s : Int) (hs : s ∈ l) (h0 : 0 ≤ s) (h1 : s ≤ (k : Int)) (h2 : s < 65) : (g7 l k).getD s.toNat 0 = ((ft l s.toNat : Nat) : Int) := by
 rw [Cu _ _ _ (by omega)]
 unfold lf
 by_cases h : 1 ≤ s.toNat
 ·rw [if_pos ⟨h, by omega, pS l s hs (by omega)⟩]
 ·have : s.toNat = 0 := by omega
  rw [this, if_neg (by omega)]
  rfl
def sf (l : List Int) (k : Nat) : List Int := (l.take k).map (fun s => ((ft l s.toNat : Nat) : Int)) ++ l.drop k
theorem CB (l : List Int) (k : Nat) : (sf l k).length = l.length := by
 unfold sf
 rw [List.length_append, List.length_map, List.length_take, List.length_drop]
 omega
theorem Gi (l : List Int) : sf l l.length = l.map (fun s => ((ft l s.toNat : Nat) : Int)) := by simp [sf]
theorem Gh (l : List Int) (k : Nat) (h : k < l.length) : (sf l k).set k ((ft l (l[k]).toNat : Nat) : Int) = sf l (k + 1) := by
 unfold sf
 have e : ((l.take k).map (fun s => ((ft l s.toNat : Nat) : Int))).length = k := by rw [List.length_map, List.length_take]; omega
 rw [List.set_append, if_neg (by omega), e, Nat.sub_self, List.drop_eq_getElem_cons h, List.set_cons_zero, List.take_succ_eq_append_getElem h, List.map_append]
 simp
end Go.Proofs.Ytemhalnhbgkbcaa.V
end

section
namespace Go.Proofs.Ytemhalnhbgkbcaa.V
structure RightP (b : Bk) : Prop where
 first : bV b.addr = b.addr
 owner : fW b.aff = true
 na : b.attrs.length ≤ 64
 sa : ∀ s ∈ b.slots, s ≤ (b.attrs.length : Int)
 may : ∀ j, j < b.attrs.length → eo (gF b.attrs j) = true
 nd : ∀ j, j < b.attrs.length → (b.attrs.take j).any (sameAt (gF b.attrs j)) = false
 used : (iq (fT b.slots)).length = b.attrs.length
 fr : ∀ j, j < b.free.length → jh b j = false
 zc : b.slots.countP (fun x => x == 0) = b.free.length
theorem iw {b : Bk} (h : dm b = true) : RightP b := by
 unfold dm kk kt at h
 simp only [Bool.and_eq_true, decide_eq_true_eq, List.all_eq_true, beq_iff_eq, List.mem_range, Bool.not_eq_true'] at h
 obtain ⟨h1, h2, h3, ⟨h4, h5, h6⟩, h7, h8⟩ := h
 exact ⟨h1, h2, h3, h4, fun j hj => (h5 j hj).1, fun j hj => (h5 j hj).2, h6, h7, h8⟩
def uW.T9 : Bool × List (List Nat × List Nat) := (true, [([], []), ([], []), ([1], [1]), ([0, 2], [0, 2]), ([], []), ([4], [4]), ([3, 5, 3], [3, 5]), ([6, 6, 0, 1, 2, 3, 4, 5, 6], [0, 6])])
def uW.B9 : List Nat := [0, 0, 2, 7, 0, 16, 63, 127]
theorem uW.tab9 : dC .any (opsOf Try.f32 9) = uW.T9 := by kernel_rfl
theorem uW.bits9 : cU uW.T9.2 uW.B9 = true := by kernel_rfl
end Go.Proofs.Ytemhalnhbgkbcaa.V
end

section
namespace Go.Proofs.Ytemhalnhbgkbcaa.V
theorem Gg (xs ys : List Int) (h : xs.Nodup) (hs : ∀ x ∈ xs, x ∈ ys) : xs.length ≤ ys.length := h.length_le_of_subset hs
theorem CE (s n : Nat) : (j6 s n).Nodup := by
 unfold j6 List.Nodup
 rw [List.pairwise_map]
 exact (List.Pairwise.filter _ List.nodup_range).imp (fun {a b} h e => h (by omega))
theorem JD (l : List Int) : (iq (fT l)).length ≤ (l.filter (fun x => decide (1 ≤ x))).length := by
 have h : (iq (fT l)).length ≤ ((l.filter (fun x => decide (1 ≤ x))).map (fun s => s - 1)).length := by
  refine Gg _ _ (CE _ 64) (fun x hx => ?_)
  obtain ⟨i, rfl, hi, ht⟩ := zE _ _ x hx
  unfold fT at ht
  rw [oE _ i hi, decide_eq_true_eq, List.mem_map] at ht
  obtain ⟨s, hs, he⟩ := ht
  exact List.mem_map.2 ⟨s, List.mem_filter.2 ⟨hs, by simp; omega⟩, he⟩
 simpa using h
theorem FV (l : List Int) (h : nE l) : (l.filter (fun x => decide (1 ≤ x))).length + l.countP (fun x => x == 0) = l.length := by
 induction l with
 | nil => rfl
 | cons x l ih =>
  have h1 := ih (fun y hy => h y (by simp [hy]))
  have h2 := h x (by simp)
  by_cases hx : x = 0
  ·subst hx
   simp only [List.filter_cons, List.countP_cons, List.length_cons]
   simp
   omega
  ·have h3 : 1 ≤ x := by omega
   simp only [List.filter_cons, List.countP_cons, List.length_cons]
   simp [hx, h3]
   omega
theorem RightP.sum_le {b : Bk} (h : RightP b) (hk : BkOk b) (hl : b.slots.length = 64) : b.attrs.length + b.free.length ≤ 64 := by
 have h1 := JD b.slots
 have h2 := FV b.slots hk.s8
 rw [h.used] at h1
 rw [h.zc, hl] at h2
 omega
end Go.Proofs.Ytemhalnhbgkbcaa.V
end

section
namespace Go.Proofs.Ytemhalnhbgkbcaa.V
structure RelOk (b : Bk) (s : Bk × List Int) (n : Nat) : Prop where
 addr : s.1.addr = b.addr
 aff : s.1.aff = b.aff
 attrs : s.1.attrs = b.attrs
 l64 : s.1.slots.length = 64
 s8 : nE s.1.slots
 f8 : nE s.1.free
 le : ∀ x ∈ s.1.slots, x ≤ (b.attrs.length : Int)
 fl : s.1.free.length ≤ b.free.length + n
 ol : s.2.length ≤ n
theorem uo {b : Bk} {x : Int} (h : gw b x = true) : 0 ≤ x - b.addr ∧ x - b.addr < 64 ∧ bV x = b.addr ∧ (b.slots.getD (x - b.addr).toNat 0 != 0) = true := by
 unfold gw at h
 rw [Bool.and_eq_true, decide_eq_true_eq] at h
 obtain ⟨h1, h2⟩ := h
 refine ⟨?_, ?_, h1, h2⟩ <;> (unfold bV at h1; omega)
theorem wy {l : List Int} {i : Nat} {x y : Int} (h : y ∈ l.set i x) : y ∈ l ∨ y = x := List.mem_or_eq_of_mem_set h
theorem JH {b : Bk} {s : Bk × List Int} {n : Nat} (h : RelOk b s n) (x : Int) : RelOk b (relF s x) (n + 1) := by
 unfold relF
 by_cases hh : gw s.1 x = true
 ·rw [if_pos hh]
  obtain ⟨h1, h2, _, _⟩ := uo hh
  refine ⟨h.addr, h.aff, h.attrs, by simpa using h.l64, fun y hy => ?_, fun y hy => ?_, fun y hy => ?_, ?_, ?_⟩
  ·rcases wy hy with hy | rfl
   ·exact h.s8 y hy
   ·omega
  ·rcases List.mem_append.1 hy with hy | hy
   ·exact h.f8 y hy
   ·rw [List.mem_singleton] at hy
    subst hy
    omega
  ·rcases wy hy with hy | rfl
   ·exact h.le y hy
   ·omega
  ·show (s.1.free ++ [x - s.1.addr]).length ≤ _
   have := h.fl
   rw [List.length_append, List.length_singleton]
   omega
  ·show (s.2 ++ [x]).length ≤ _
   have := h.ol
   rw [List.length_append, List.length_singleton]
   omega
 ·rw [if_neg hh]
  exact ⟨h.addr, h.aff, h.attrs, h.l64, h.s8, h.f8, h.le, by have := h.fl; omega, by have := h.ol; omega⟩
theorem sD {b : Bk} (hk : BkOk b) (hp : RightP b) (hl : b.slots.length = 64) (l : List Int) : ∀ k, k ≤ l.length → RelOk b (relL b (l.take k)) k := by
 intro k
 induction k with
 | zero => intro _; exact ⟨rfl, rfl, rfl, hl, hk.s8, hk.f8, hp.sa, Nat.le_refl _, Nat.le_refl _⟩
 | succ k ih =>
  intro h
  rw [List.take_succ_eq_append_getElem (by omega), yV]
  exact JH (ih (by omega)) _
theorem yU (b : Bk) (l : List Int) (k : Nat) (h : k < l.length) (x : Int) (hx : l[k] = x) : relL b (l.take (k + 1)) = relF (relL b (l.take k)) x := by
 rw [List.take_succ_eq_append_getElem h, yV, hx]
end Go.Proofs.Ytemhalnhbgkbcaa.V
end

section
namespace Go.Proofs.Ytemhalnhbgkbcaa.V
theorem nF {α : Type} {d : Kd α} {e base n c : Nat} {ok : Nat → Prop} {W : World} {A : Option Addr} {xs : List α} (h : d.R e W base ok (.slice A n c) xs) (hn : 0 < xs.length) : ∃ g, A = some ⟨g, 0, none⟩ := by
 have hl := (Kd.R_reads' h).1
 obtain ⟨_, inner, ho, _⟩ := h
 rcases ho.2 with ⟨hv, h0⟩ | ⟨g', cap', cur, hv, _⟩
 ·injection hv with h1 h2 h3
  omega
 ·injection hv with h1 h2 h3
  exact ⟨g', h1⟩
theorem Dh {e base n cap g : Nat} {ok : Nat → Prop} : ∀ (m o : Nat) (W : World) (xs : List Int), o + m ≤ n → Kd.R (Kd.int .u8) e W base ok (.slice (some ⟨g, 0, none⟩) n cap) xs →
  ∃ ys, ys.length = xs.length ∧ ys.take o = xs.take o ∧ Kd.R (Kd.int .u8) e (W.setCells g o (List.replicate m (.int .u8 0))) base ok (.slice (some ⟨g, 0, none⟩) n cap) ys ∧ W.grownBy (W.setCells g o (List.replicate m (.int .u8 0))) (some g)
 | 0, o, W, xs, _, h => ⟨xs, rfl, rfl, h, ⟨rfl, rfl, rfl, Nat.le_refl _, fun _ _ _ => rfl⟩⟩
 | m + 1, o, W, xs, ho, h => by
  have hn := (Kd.R_reads' h).1
  obtain ⟨ce, hcl, _, hcc, _⟩ := Kd.R_elem h 0 (o : Int) (by omega) (by omega)
  obtain ⟨u, rfl⟩ := List.length_eq_one_iff.1 (show ce.length = 1 from hcl)
  have hsg := Kd.R_seg h (o : Int) (by omega) (by omega) (seg := [.int .u8 0]) (j := 0) (x' := (0 : Int)) (okp := fun _ => False) hcl hcc (Nat.le_refl 1) rfl (fun _ h => h.elim)
  have e1 : ((o : Int).toNat * (Kd.int .u8).sz + 0) = o := by show (o : Int).toNat * 1 + 0 = o; omega
  rw [e1] at hsg
  obtain ⟨ys, hl, ht, hr, hg⟩ := Dh m (o + 1) _ _ (by omega) hsg.1
  refine ⟨ys, by rw [hl, List.length_set], ?_, hr, ?_⟩
  ·have h2 := congrArg (List.take o) ht
   rw [List.take_take, List.take_take, show min o (o + 1) = o by omega] at h2
   rw [h2, List.take_set_of_le (by omega)]
  ·exact ⟨hg.os.trans hsg.2.os, hg.tape.trans hsg.2.tape, hg.output.trans hsg.2.output, Nat.le_trans hsg.2.size hg.size, fun k hk hne => (hg.block k (Nat.lt_of_lt_of_le hk hsg.2.size) hne).trans (hsg.2.block k hk hne)⟩
theorem Hw {e base n cap g : Nat} {ok : Nat → Prop} {W : World} {xs : List Int} (h : Kd.R (Kd.int .u8) e W base ok (.slice (some ⟨g, 0, none⟩) n cap) xs) (j : Nat) (hj : j < n) : (∃ u, W.cell? ⟨g, j, none⟩ = some u) ∧ W.frozen? ⟨g, j, none⟩ = false := by
 obtain ⟨ce, hcl, _, hcc, hcf⟩ := Kd.R_elem h 0 (j : Int) (by omega) (by omega)
 obtain ⟨u, rfl⟩ := List.length_eq_one_iff.1 (show ce.length = 1 from hcl)
 have e1 : ((j : Int).toNat * (Kd.int .u8).sz + 0) = j := by show (j : Int).toNat * 1 + 0 = j; omega
 have h1 := hcc 0 u rfl
 have h2 := hcf 0
 rw [e1] at h1 h2
 exact ⟨⟨u, h1⟩, h2⟩
theorem KY (w : World) : (zeroValue 5).run Try.prog w = .ok (.int .u8 0) w := by kernel_rfl
def fQ (i : Int) (x : Int) : Bool := !(x == i)
theorem EP (xs L : List Int) (i : Int) (j ii : Nat) (hj : j < xs.length) (hl : L.length = xs.length) (hij : ii < j) (h1 : L.take ii = (xs.take j).filter (fQ i)) (h2 : L.drop j = xs.drop j) (hk : (xs[j] == i) = false) :
  (L.set ii xs[j]).length = xs.length ∧ (L.set ii xs[j]).take (ii + 1) = (xs.take (j + 1)).filter (fQ i) ∧ (L.set ii xs[j]).drop (j + 1) = xs.drop (j + 1) := by
 refine ⟨by simpa using hl, ?_, ?_⟩
 ·rw [List.take_add_one, List.take_set_of_le (by omega), List.getElem?_set_self (by omega), h1, List.take_succ_eq_append_getElem hj, List.filter_append]
  congr 1
  simp [fQ, hk]
 ·rw [List.drop_set_of_lt (by omega)]
  have := congrArg (List.drop 1) h2
  rwa [List.drop_drop, List.drop_drop] at this
theorem Fe (xs L : List Int) (i : Int) (j ii : Nat) (hj : j < xs.length) (h1 : L.take ii = (xs.take j).filter (fQ i)) (h2 : L.drop j = xs.drop j) (hk : (xs[j] == i) = true) :
  L.take ii = (xs.take (j + 1)).filter (fQ i) ∧ L.drop (j + 1) = xs.drop (j + 1) := by
 refine ⟨?_, ?_⟩
 ·rw [h1, List.take_succ_eq_append_getElem hj, List.filter_append]
  congr 1
  simp [fQ, hk]
 ·have := congrArg (List.drop 1) h2
  rwa [List.drop_drop, List.drop_drop] at this
theorem DU (xs : List Int) (i : Int) (k : Nat) (hk : k < xs.length) (h : (xs[k] == i) = true) (hn : ∀ j (hj : j < k), (xs[j] == i) = false) : xs.take k = (xs.take (k + 1)).filter (fQ i) := by
 rw [List.take_add_one, List.getElem?_eq_getElem hk, List.filter_append]
 have e : (xs.take k).filter (fQ i) = xs.take k := by
  rw [List.filter_eq_self]
  intro x hx
  obtain ⟨j, hj, rfl⟩ := List.mem_iff_getElem.1 hx
  rw [List.length_take] at hj
  have := hn j (by omega)
  rw [List.getElem_take]
  simp [fQ, this]
 rw [e]
 simp [fQ, h]
theorem GG (xs L : List Int) (j : Nat) (hj : j < xs.length) (hl : L.length = xs.length) (h : L.drop j = xs.drop j) : rd L j = xs[j] := by
 have h1 := congrArg (fun l => l[0]?) h
 simp only [List.getElem?_drop, Nat.add_zero] at h1
 rw [List.getElem?_eq_getElem (by omega), List.getElem?_eq_getElem hj] at h1
 simp only [rd, List.getD, Int.toNat_natCast]
 rw [List.getElem?_eq_getElem (by omega)]
 exact Option.some.inj h1
set_option maxHeartbeats 8000000 in
set_option maxRecDepth 100000 in
theorem yH (xs : List Int) (hu : nE xs) (hl : xs.length ≤ 1000) (A : Option Addr) (c : Nat) (i : Int) (g b1 : Nat) (w : World) (hR : Kd.R (Kd.int .u8) 5 w b1 (fun _ => True) (.slice A xs.length c) xs) (hX : aH w g [.int .i64 i] 3) (cy : b1 ≤ w.heap.size) :
  Calls Try.prog 93 #[.slice A xs.length c, LW g] w fun e w' => ∃ v, e = .returned v ∧ Kd.R (Kd.int .u8) 5 w' b1 (fun _ => True) v (xs.filter (fQ i)) ∧ Below b1 w w' ∧ gH (fun k => some k = (Value.slice A xs.length c).ownBlock) w w' := by
 have hC := (Kd.R_reads' hR).2.2
 have hcap := (Kd.R_reads' hR).2.1
 have HR := ak hR
 have HX := ak hX
 have HU := ak hu
 have cn := ak cy
 have HIF := ak (zH xs hu hl A c i g w hC hX)
 clear hX hu cy hC
 cases hi : sj xs i with
 | none =>
  rw [hi] at HIF
  have HF := ak (show xs.filter (fQ i) = xs from List.filter_eq_self.2 (fun x hx => by simp [fQ, ES hi x hx]))
  clear hi hR
  go_enter Try.func93, Try.ntmps93
  go_wp2_with (go_at_call 111; refine (HIF.out).mono ?_; rintro e W1 ⟨rfl, cy⟩; have HB := ak cy; clear cy; unfold si)
  go_ret
  exact ⟨_, rfl, by rw [HF.out]; exact Kd.R_below HR.out HB.out, HB.out.mono cn.out, gH.of_below HB.out⟩
 | some k0 =>
  rw [hi] at HIF
  obtain ⟨Lw, Oj, lP⟩ := ER hi
  obtain ⟨gr, rfl⟩ := nF hR (Nat.lt_of_le_of_lt (Nat.zero_le _) Lw)
  have H1 := ak (DU xs i k0 Lw Oj lP)
  have uq : ((k0 : Int) == (-1 : Int)) = false := by rw [beq_eq_false_iff_ne]; omega
  have HGR := ak (Kd.R_base hR gr rfl)
  clear hi hR Oj lP
  go_enter Try.func93, Try.ntmps93
  go_wp2_with (go_at_call 111; refine (HIF.out).mono ?_; rintro e W1 ⟨rfl, cy⟩; have HB := ak cy; clear cy; unfold si)
  go_loopw [5, 6, 7] (fun t j _ W => ∃ (jj ii : Nat) (L : List Int), jj ≤ xs.length ∧ ii < jj ∧ t = .int .i64 ii ∧ j = .int .i64 jj ∧ Aside0 (L.length = xs.length) ∧ Aside0 (L.take ii = (xs.take jj).filter (fQ i)) ∧ Aside0 (L.drop jj = xs.drop jj) ∧ Aside0 (Kd.R (Kd.int .u8) 5 W b1 (fun _ => True) (.slice (some ⟨gr, 0, none⟩) xs.length c) L) ∧ Aside0 (aH W g [.int .i64 i] 3) ∧ Aside0 (Below b1 w W) ∧ Aside0 (gH (fun k => some k = some gr) w W)) (fun _ j _ _ => xs.length - (intOf j).toNat)
  case atStart => exact ⟨k0 + 1, k0, xs, by omega, by omega, rfl, by go_num, ⟨rfl⟩, H1, ⟨rfl⟩, ⟨Kd.R_below HR.out HB.out⟩, ⟨HX.out.below HB.out⟩, ⟨HB.out.mono cn.out⟩, ⟨gH.of_below HB.out⟩⟩
  case round =>
   clear HB H1 uq Lw
   obtain ⟨jj, ii, L, hjj, hij, rfl, rfl, HL, HT, HD, HRL, HXL, HBL, HKL⟩ := hrel
   obtain ⟨W, rfl⟩ : ∃ W : World, W = wr := ⟨_, rfl⟩
   by_cases hlt : jj < xs.length
   ·have hkb : decide ((jj : Int) < (xs.length : Int)) = true := by simp; omega
    have hLl := HL.out
    obtain ⟨ad, eA, hx⟩ := Kd.at_int (Kd.R_reads' HRL.out).2.2 jj (by omega) (by omega)
    clear hLl
    cases eA
    rw [Int.toNat_natCast, add_plain] at hx
    have p1 : ((jj : Int) < (xs.length : Int)) = True := eq_true (by omega)
    have hrd := GG xs L jj hlt HL.out HD.out
    have h0 : 0 ≤ xs[jj] ∧ xs[jj] < 256 := HU.out _ (List.getElem_mem hlt)
    obtain ⟨x, hxx⟩ : ∃ x, x = xs[jj] := ⟨_, rfl⟩
    rw [← hxx] at hrd h0
    rw [hrd] at hx
    have HXK := ak hxx
    clear hrd hxx
    cases hq : (x == i) with
    | true =>
     have HQ := ak hq
     clear hq
     have HG := ak (Fe xs L i jj ii hlt HT.out HD.out (by rw [← HXK.out]; exact HQ.out))
     go_wp2_with (go_at_call 94; refine (zQ x i h0.1 h0.2 g _ HXL.out).mono ?_; rintro e W2 ⟨rfl, eL⟩; rw [HQ.out]; have zr := ak (Kd.R_below HRL.out eL); have gl := ak (HXL.out.below eL); have jw := ak (HBL.out.trans (eL.mono (lb cn HBL))); have FN := ak (gH.trans HKL.out (gH.of_below eL)); clear eL)
     go_roundw
     case rel => exact ⟨jj + 1, ii, L, by omega, by omega, rfl, by go_num, HL, ⟨HG.out.1⟩, ⟨HG.out.2⟩, zr, gl, jw, FN⟩
     case measure => simp [intOf]; omega
    | false =>
     have HQ := ak hq
     clear hq
     have HG := ak (EP xs L i jj ii hlt HL.out hij HT.out HD.out (by rw [← HXK.out]; exact HQ.out))
     rw [← HXK.out] at HG
     have hlast : (ii : Int) < (xs.length : Int) := by omega
     have e1 : ((ii : Int).toNat * (Kd.int .u8).sz + 0) = ii := by show (ii : Int).toNat * 1 + 0 = ii; omega
     have E1 := ak e1
     clear e1
     go_wp2_with (first
      | (go_at_call 94; refine (zQ x i h0.1 h0.2 g _ HXL.out).mono ?_; rintro e W2 ⟨rfl, eL⟩; rw [HQ.out]; have zr := ak (Kd.R_below HRL.out eL); have gl := ak (HXL.out.below eL); have jw := ak (HBL.out.trans (eL.mono (lb cn HBL))); have FN := ak (gH.trans HKL.out (gH.of_below eL)); obtain ⟨ce, hcl, Su, hcc, hcf⟩ := Kd.R_elem zr.out 0 (ii : Int) (by omega) hlast; obtain ⟨u, rfl⟩ := List.length_eq_one_iff.1 (show ce.length = 1 from hcl); have HCC := ak hcc; have HCL := ak hcl; have Hf : W2.cell? ⟨gr, ii, none⟩ = some u := (by have h_ := hcc 0 u rfl; rwa [E1.out] at h_); have vG : W2.frozen? ⟨gr, ii, none⟩ = false := (by have h_ := hcf 0; rwa [E1.out] at h_); clear eL hx hcc hcl hcf Su))
     clear Hf vG
     have hsg := Kd.R_seg zr.out (ii : Int) (by omega) hlast (seg := [.int .u8 x]) (j := 0) (x' := x) (okp := fun _ => False) HCL.out HCC.out (Nat.le_refl 1) rfl (fun _ h => h.elim)
     rw [E1.out, Int.toNat_natCast] at hsg
     have SQ := ak hsg.1
     have C2 := hsg.2
     have nK := ak (gl.out.grown C2 (gl.out.ne_row zr.out (by decide)))
     have SV := ak (gH.trans FN.out (gH.of_grown C2 (fun k hk => hk)))
     have jL := ak (jw.out.grown C2 (lb cn jw) (by intro k hk; cases hk; exact HGR.out))
     clear hsg C2
     go_roundw
     case rel => exact ⟨jj + 1, ii + 1, L.set ii x, by omega, by omega, by go_num, by go_num, ⟨HG.out.1⟩, ⟨HG.out.2.1⟩, ⟨HG.out.2.2⟩, SQ, nK, jL, SV⟩
     case measure => simp [intOf]; omega
   ·obtain rfl : jj = xs.length := by omega
    have hkb : decide ((xs.length : Int) < (xs.length : Int)) = false := by simp
    have hcl : ∀ ty, (Builtin.clear_ #[48] ty #[.slice (some ⟨gr, ii, none⟩) (xs.length - ii) (c - ii)]).run Try.prog W = .ok (.tuple #[]) (W.setCells gr ii (List.replicate (xs.length - ii) (.int .u8 0))) :=
     fun ty => Lib.run_clear_slice W 48 5 ty (.int .u8 0) Try.underlying48 KY rfl rfl gr ii _ _ (by omega) (fun j hj => by
      obtain ⟨⟨u, hu⟩, _⟩ := Hw HRL.out (ii + j) (by omega)
      rw [hu]
      rfl) (fun j hj => (Hw HRL.out (ii + j) (by omega)).2)
    have hcne : ¬ c = ii := by omega
    have HZ := ak (Dh (xs.length - ii) ii W L (by omega) HRL.out)
    rw [List.take_of_length_le (Nat.le_refl xs.length)] at HT
    generalize Uo : W.setCells gr ii (List.replicate (xs.length - ii) (.int .u8 0)) = W2 at hcl HZ
    go_wp2
    go_ret
    obtain ⟨ys, hyl, hyt, hyr, hyg⟩ := HZ.out
    have hr := Kd.R_take hyr (m := ii) (by rw [hyl, HL.out]; omega)
    rw [hyt, HT.out] at hr
    exact ⟨_, rfl, hr, HBL.out.grown hyg (lb cn HBL) (by intro k hk; cases hk; exact HGR.out), gH.trans HKL.out (gH.of_grown hyg (fun k hk => hk))⟩
end Go.Proofs.Ytemhalnhbgkbcaa.V
end

section
namespace Go.Proofs.Ytemhalnhbgkbcaa.V
def vL (l : List At) : Prop := ∀ j, j < l.length → (l.take j).any (sameAt (gF l j)) = false
theorem ov {b : Bk} (hp : RightP b) (hk : BkOk b) (j : Nat) (h : j < b.free.length) : 0 ≤ rd b.free j ∧ rd b.free j < 64 ∧ rd b.free j ∉ b.free.take j ∧ b.slots.getD (rd b.free j).toNat 0 = 0 := by
 have h1 := hp.fr j h
 unfold jh at h1
 simp only [Bool.or_eq_false_iff, decide_eq_false_iff_not, bne_eq_false_iff_eq] at h1
 exact ⟨(mP hk.f8 j).1, by omega, h1.2.1, h1.2.2⟩
theorem CT (l : List Int) (k : Nat) (h : k < l.length) : rd l k = l[k] := by simp [rd, List.getD, h]
theorem Fj {b : Bk} (hp : RightP b) (hk : BkOk b) (k : Nat) (h : k < b.free.length) : (b.free.drop k).filter (fQ (rd b.free k)) = b.free.drop (k + 1) := by
 rw [List.drop_eq_getElem_cons h, List.filter_cons]
 have e := CT b.free k h
 rw [e]
 have h0 : fQ b.free[k] b.free[k] = false := by simp [fQ]
 rw [h0, if_neg (by decide), List.filter_eq_self]
 intro x hx
 obtain ⟨i, hi, rfl⟩ := List.mem_iff_getElem.1 hx
 rw [List.length_drop] at hi
 have hm := (ov hp hk (k + 1 + i) (by omega)).2.2.1
 rw [CT b.free (k + 1 + i) (by omega)] at hm
 rw [List.getElem_drop]
 have hne : b.free[k + 1 + i] ≠ b.free[k] := fun e2 => hm (by
  rw [e2]
  exact List.mem_take_iff_getElem.2 ⟨k, by omega, rfl⟩)
 simp [fQ, hne]
theorem Lf {l : List At} (h : vL l) (a : At) : vL (eh l a) := by
 unfold eh
 cases hi : fO l a with
 | some i => exact h
 | none =>
  show vL (l ++ [a])
  intro j hj
  rw [List.length_append, List.length_singleton] at hj
  rcases Nat.lt_or_ge j l.length with h1 | h1
  ·have e1 : (l ++ [a]).take j = l.take j := by rw [List.take_append_of_le_length (by omega)]
   have e2 : gF (l ++ [a]) j = gF l j := by
    rw [kI _ _ (by simp; omega), kI _ _ h1, List.getElem_append_left h1]
   rw [e1, e2]
   exact h j h1
  ·obtain rfl : j = l.length := by omega
   have e1 : (l ++ [a]).take l.length = l := by simp
   have e2 : gF (l ++ [a]) l.length = a := by
    rw [kI _ _ (by simp)]
    simp
   rw [e1, e2]
   unfold fO at hi
   rw [List.findIdx?_eq_none_iff] at hi
   rw [List.any_eq_false]
   intro x hx
   simpa using hi x hx
theorem L3 {b : Bk} (h : vL b.attrs) (k : Nat) (a : At) : vL (eV b k a).attrs := by
 show vL (if k = 0 then b.attrs else eh b.attrs a)
 split
 ·exact h
 ·exact Lf h a
theorem Fx (b : Bk) (k : Nat) (a : At) : (eV b k a).slots.length = b.slots.length ∧ (eV b k a).free.length ≤ b.free.length ∧ (eV b k a).attrs.length ≤ b.attrs.length + 1 := by
 refine ⟨zz _ _ _, ?_, ?_⟩
 ·show (b.free.drop k).length ≤ _
  rw [List.length_drop]
  omega
 ·show (if k = 0 then b.attrs else eh b.attrs a).length ≤ _
  split
  ·omega
  ·exact pC _ _
theorem Bm {b : Bk} (hp : RightP b) (hk : BkOk b) (k : Nat) (h : k < b.free.length) (a : At) : fG (eV b k a) (rd b.free k).toNat a = eV b (k + 1) a := by
 have h0 := ov hp hk k h
 have hmid := oI b k a h
 have e : eV b (k + 1) a = ⟨b.addr, b.aff, (dS b (k + 1) a).slots, b.free.drop (k + 1), (dS b (k + 1) a).attrs⟩ := rfl
 rw [e, hmid, ← Fj hp hk k h]
 unfold fG
 congr 1
 show (b.free.drop k).filter (fQ ((rd b.free k).toNat : Int)) = _
 rw [Int.toNat_of_nonneg h0.1]
theorem GO (b : Bk) (a : At) : eV b 0 a = b := rfl
theorem Cb (b : Bk) (k : Nat) (a : At) (h : k < b.free.length) : 0 < (eV b k a).free.length ∧ rd (eV b k a).free 0 = rd b.free k := by
 constructor
 ·show 0 < (b.free.drop k).length
  rw [List.length_drop]
  omega
 ·show rd (b.free.drop k) 0 = _
  simp [rd, List.getD]
end Go.Proofs.Ytemhalnhbgkbcaa.V
end

section
namespace Go.Proofs.Ytemhalnhbgkbcaa.V
theorem yt (a : At) : ∀ u ∈ [Value.string (vc a).f0, .string (vc a).f1], u.oneCell' = true := by
 intro u hu
 simp only [List.mem_cons, List.not_mem_nil, or_false] at hu
 rcases hu with rfl | rfl <;> rfl
theorem y7 (l : List Int) (i : Int) (k : Nat) (h : k < l.length) : (l.take (k + 1)).filter (fQ i) = (l.take k).filter (fQ i) ++ if (l[k] == i) = true then [] else [l[k]] := by
 rw [List.take_succ_eq_append_getElem h, List.filter_append]
 congr 1
 cases hq : (l[k] == i) <;> simp [fQ, hq]
set_option maxHeartbeats 16000000 in
set_option maxRecDepth 100000 in
theorem Bn (b : Bk) (hl : b.slots.length = 64) (hf : b.free.length ≤ 1000) (ha : b.attrs.length ≤ 100) (hnd : ∀ j, j < b.attrs.length → (b.attrs.take j).any (sameAt (gF b.attrs j)) = false) (i : Nat) (hi : i < 64) (a : At) (v : Value) (w : World) (h : jd w v b) :
  Calls Try.prog 106 #[v, .int .i64 i, .agg #[.string a.f0, .string a.f1]] w fun e w' => ∃ v', e = .returned v' ∧ eG w' w.heap.size v' (fG b i a) ∧ Below w.heap.size w w' := by
 obtain ⟨M, FQ, Fo, FR, Ft, FT, Fv, rfl, hr⟩ := h
 have xw := ak hr.m
 have hml : M.length = b.attrs.length := by rw [hr.m, List.length_map]
 have HML := ak hml
 have HR := ak hr
 have HL := ak hl
 have HND := ak hnd
 have HFL := ak hf
 have AW : M.length ≤ 100 := by omega
 have HCP := ak (fun w h => zP b (by omega) (by omega) M (by omega) FQ Fo FR Ft FT Fv w h)
 have ae := ak (Below.refl w.heap.size w)
 clear hr hl hnd hml hf
 go_enter Try.func106, Try.ntmps106
 go_wp2_with (first
  | (refine aE rfl 62 (.tmp 0) rfl _ rfl ?_; intro gX W1 J aa I; have bQ := ge ae J; have ai := ak (ae.out.trans (I.mono ae.out.size)); have ah := ak (aa); clear J aa I ae)
  | (refine aE rfl 76 (.tmp 2) rfl _ rfl ?_; intro gA W2 J aa I; have ku := ge ai J; have eD := ne ah J; have av := mv I ai; have au := mv I ah; have cd := ak (aa); clear J aa I ai ah)
  | (refine aw (some 6) rfl rfl 62 rfl dG (fun _ => by kernel_rfl) ?_; intro gZ W3 J aa I; have bN := ge av J; have aG := ne au J; have gf := ne cd J; have aD := mv I av; have aA := mv I au; have dq := mv I cd; have bL := ak (aa); clear J aa I av au cd)
  | ((with_reducible refine ax (N := 13) rfl ?_); refine az rfl 62 (.tmp 3) rfl gX rfl _ _ _ aA.out Try.underlying62 rfl 5 (by kernel_rfl) rfl ?_)
  | (go_at_call 85; refine (HCP.out _ (HR.out.below aD.out)).mono ?_; rintro e W4 ⟨vs, vf, va, rfl, sR, di, dO, I⟩; obtain ⟨As, cs, rfl⟩ := Kd.R_slice sR; obtain ⟨Af, cf, rfl⟩ := Kd.R_slice di; obtain ⟨Aa, ca, rfl⟩ := Kd.R_slice dO; have HSZ := ak aD.out.size; have HGL := ak (show gA < W3.heap.size from dq.out.lt); have aY := mv I aD; have aV := mv I aA; have dI := mv I dq; have a8 := mv I bL; have cx := ak (sR); have ch := ak (di); have cR := ak (dO); clear sR di dO I aD aA dq bL)
  | (refine aN rfl 62 (.tmp 3) (.tmp 14) rfl gX (da b.addr b.aff (.slice As b.slots.length cs) (.slice Af b.free.length cf) (.slice Aa M.length ca)) rfl rfl 62 _ aV.out 5 (by kernel_rfl) rfl rfl (dJ _ _ rfl rfl rfl) ?_; intro W5 aa J; have bf := gb aY bQ J; have bb := ak (aa); have eJ := gx dI aV J; have bu := gm a8 aG J; have cJ := gr cx aV J; have cb := gr ch aV J; have cG := gr cR aV J; have mA := aa.cell 4 _ rfl; clear aa J aY aV dI a8 cx ch cR))
 clear mA
 obtain ⟨b1, cy⟩ : ∃ b1, b1 = W3.heap.size := ⟨_, rfl⟩
 rw [← cy] at cJ cb cG HSZ HGL
 have cn := ak (show w.heap.size ≤ b1 from HSZ.out)
 clear cy HSZ
 go_loopw [7, 8, 9, 18] (fun q _ _ u W => ∃ k : Nat, k ≤ M.length ∧ u = .int .i64 k ∧ q = .int .i64 (si (fO (b.attrs.take k) a)) ∧ Aside0 (aH W gX (da b.addr b.aff (.slice As b.slots.length cs) (.slice Af b.free.length cf) (.slice Aa M.length ca)) 62) ∧ Aside0 (aH W gA [.string (vc a).f0, .string (vc a).f1] 76) ∧ Aside0 (aH W gZ dG 62) ∧ Aside0 (Kd.R (Kd.int .i64) 3 W b1 (fun k => some k ≠ (Value.slice Af b.free.length cf).ownBlock) (.slice As b.slots.length cs) b.slots) ∧ Aside0 (Kd.R (Kd.int .i64) 3 W b1 (fun k => some k ≠ (Value.slice As b.slots.length cs).ownBlock) (.slice Af b.free.length cf) b.free) ∧ Aside0 (Kd.R g8 76 W b1 (fun _ => True) (.slice Aa M.length ca) M) ∧ Aside0 (Below w.heap.size w W)) (fun _ _ _ u _ => M.length - (intOf u).toNat)
 case atStart => exact ⟨0, by omega, rfl, rfl, bb, eJ, bu, cJ, cb, cG, bf⟩
 case round =>
  clear bb eJ bu cJ cb cG bf
  obtain ⟨k, hk, rfl, rfl, aJ, gO, br, aX, bw, bD, ae⟩ := hrel
  obtain ⟨W, rfl⟩ : ∃ W : World, W = wr := ⟨_, rfl⟩
  by_cases hkn : k < M.length
  ·have hkb : decide ((k : Int) < (M.length : Int)) = true := by simp; omega
   obtain ⟨ad, eA, fF, jf⟩ := B5 (Kd.R_reads' bD.out).2.2 k (by omega) (by omega)
   cases eA
   rw [Int.toNat_natCast] at fF jf
   have p1 : ((k : Int) < (M.length : Int)) = True := eq_true (by omega)
   have hka : k < b.attrs.length := by have := HML.out; omega
   obtain ⟨x, hx⟩ : ∃ x : At, gF b.attrs k = x := ⟨_, rfl⟩
   have hx' : fv M (k : Int) = vc x := by
    rw [← hx, xw.out]
    show fv (b.attrs.map vc) (k : Int) = vc (cH b.attrs (k : Int))
    simp [fv, cH, List.getD, hka]
   rw [hx'] at fF jf
   obtain ⟨q, hq⟩ : ∃ q, q = si (fO (b.attrs.take k) a) := ⟨_, rfl⟩
   rw [← hq]
   have hsd : sameAt x a = ((vc x).f0.toList == (vc a).f0.toList && (vc x).f1.toList == (vc a).f1.toList) := rfl
   cases e0 : ((vc x).f0.toList == (vc a).f0.toList) with
   | true =>
    cases e1 : ((vc x).f1.toList == (vc a).f1.toList) with
    | true =>
     rw [e0, e1] at hsd
     have HQ := ak (show si (fO (b.attrs.take (k + 1)) a) = (k : Int) by rw [zI b.attrs a k hka (by rw [hx]; exact hsd) (HND.out k hka)]; rfl)
     clear hx hx' hq hsd
     go_wp2_with (first
      | (refine aw (some 9) rfl rfl 76 rfl [.string ⟨#[]⟩, .string ⟨#[]⟩] (fun _ => by kernel_rfl) ?_; intro gV W1 J aa I; have df := ge ae J; have fx := ne aJ J; have kT := ne gO J; have jZ := ne br J; have ah := mv I aJ; have jG := mv I gO; have bM := mv I br; have bd := mv I aX; have bp := mv I bw; have bH := ak (Kd.R_mono (ok' := fun k_ => k_ ≠ gV) (Kd.R_below (Kd.R_bound bD.out) I) (fun k_ cD e_ => by have h_ := cD.2.2.1; omega)); have ai := ak (ae.out.trans (I.mono ae.out.size)); have gL := ak (aa); clear J aa I aJ gO br aX bw bD ae)
      | (refine aN rfl 76 (.tmp 9) (.tmp 22) rfl gV [.string (vc x).f0, .string (vc x).f1] rfl rfl 76 _ gL.out 2 (by kernel_rfl) rfl rfl (yt x) ?_; intro W2 aa J; have au := gx ah gL J; have cd := gn jG kT J; have bY := gx bM gL J; have bC := gr bd gL J; have bT := gr bp gL J; have b9 := ak (Kd.R_mono (ok' := fun _ => True) (Kd.R_grown bH.out J (fun k_ cD e_ => cD (Option.some.inj e_))) (fun _ _ => trivial)); have av := gb ai df J; have dc := ak (aa); have mz := aa.cell 0 _ rfl; have lr := aa.cell 1 _ rfl; have DS := cd.out.cell 0 _ rfl; have DR := cd.out.cell 1 _ rfl; clear aa J ah jG bM bd bp bH ai gL))
     go_roundw
     case rel => exact ⟨k + 1, by omega, by go_num, by rw [HQ.out], au, cd, bY, bC, bT, b9, av⟩
     case measure => simp [intOf]; omega
    | false =>
     rw [e0, e1] at hsd
     have HQ := ak (show si (fO (b.attrs.take (k + 1)) a) = q by rw [tG b.attrs a k hka (by rw [hx]; exact hsd), hq])
     clear hx hx' hq hsd
     go_wp2_with (first
      | (refine aw (some 9) rfl rfl 76 rfl [.string ⟨#[]⟩, .string ⟨#[]⟩] (fun _ => by kernel_rfl) ?_; intro gV W1 J aa I; have df := ge ae J; have fx := ne aJ J; have kT := ne gO J; have jZ := ne br J; have ah := mv I aJ; have jG := mv I gO; have bM := mv I br; have bd := mv I aX; have bp := mv I bw; have bH := ak (Kd.R_mono (ok' := fun k_ => k_ ≠ gV) (Kd.R_below (Kd.R_bound bD.out) I) (fun k_ cD e_ => by have h_ := cD.2.2.1; omega)); have ai := ak (ae.out.trans (I.mono ae.out.size)); have gL := ak (aa); clear J aa I aJ gO br aX bw bD ae)
      | (refine aN rfl 76 (.tmp 9) (.tmp 22) rfl gV [.string (vc x).f0, .string (vc x).f1] rfl rfl 76 _ gL.out 2 (by kernel_rfl) rfl rfl (yt x) ?_; intro W2 aa J; have au := gx ah gL J; have cd := gn jG kT J; have bY := gx bM gL J; have bC := gr bd gL J; have bT := gr bp gL J; have b9 := ak (Kd.R_mono (ok' := fun _ => True) (Kd.R_grown bH.out J (fun k_ cD e_ => cD (Option.some.inj e_))) (fun _ _ => trivial)); have av := gb ai df J; have dc := ak (aa); have mz := aa.cell 0 _ rfl; have lr := aa.cell 1 _ rfl; have DS := cd.out.cell 0 _ rfl; have DR := cd.out.cell 1 _ rfl; clear aa J ah jG bM bd bp bH ai gL))
     go_roundw
     case rel => exact ⟨k + 1, by omega, by go_num, by rw [HQ.out], au, cd, bY, bC, bT, b9, av⟩
     case measure => simp [intOf]; omega
   | false =>
    rw [e0, Bool.false_and] at hsd
    have HQ := ak (show si (fO (b.attrs.take (k + 1)) a) = q by rw [tG b.attrs a k hka (by rw [hx]; exact hsd), hq])
    clear hx hx' hq hsd
    go_wp2_with (first
     | (refine aw (some 9) rfl rfl 76 rfl [.string ⟨#[]⟩, .string ⟨#[]⟩] (fun _ => by kernel_rfl) ?_; intro gV W1 J aa I; have df := ge ae J; have fx := ne aJ J; have kT := ne gO J; have jZ := ne br J; have ah := mv I aJ; have jG := mv I gO; have bM := mv I br; have bd := mv I aX; have bp := mv I bw; have bH := ak (Kd.R_mono (ok' := fun k_ => k_ ≠ gV) (Kd.R_below (Kd.R_bound bD.out) I) (fun k_ cD e_ => by have h_ := cD.2.2.1; omega)); have ai := ak (ae.out.trans (I.mono ae.out.size)); have gL := ak (aa); clear J aa I aJ gO br aX bw bD ae)
     | (refine aN rfl 76 (.tmp 9) (.tmp 22) rfl gV [.string (vc x).f0, .string (vc x).f1] rfl rfl 76 _ gL.out 2 (by kernel_rfl) rfl rfl (yt x) ?_; intro W2 aa J; have au := gx ah gL J; have cd := gn jG kT J; have bY := gx bM gL J; have bC := gr bd gL J; have bT := gr bp gL J; have b9 := ak (Kd.R_mono (ok' := fun _ => True) (Kd.R_grown bH.out J (fun k_ cD e_ => cD (Option.some.inj e_))) (fun _ _ => trivial)); have av := gb ai df J; have dc := ak (aa); have mz := aa.cell 0 _ rfl; have lr := aa.cell 1 _ rfl; have DS := cd.out.cell 0 _ rfl; have DR := cd.out.cell 1 _ rfl; clear aa J ah jG bM bd bp bH ai gL))
    go_roundw
    case rel => exact ⟨k + 1, by omega, by go_num, by rw [HQ.out], au, cd, bY, bC, bT, b9, av⟩
    case measure => simp [intOf]; omega
  ·obtain rfl : k = M.length := by omega
   have hkb : decide ((M.length : Int) < (M.length : Int)) = false := by simp
   rw [show b.attrs.take M.length = b.attrs from List.take_of_length_le (by rw [HML.out]; exact Nat.le_refl _)]
   cases hix : fO b.attrs a with
   | some j =>
    obtain ⟨gs, rfl⟩ := nF aX.out (by have := HL.out; omega)
    have HBS := ak (show b1 ≤ W.heap.size by
     have h1 := Kd.R_lt aX.out gs rfl
     have h2 := Kd.R_base aX.out gs rfl
     omega)
    have tB := cn
    have vT : gX ≠ gs := fun e_ => (aJ.out.ne_row aX.out (by decide)) (by rw [e_]; rfl)
    have DQ : gs ≠ gX := fun e_ => vT e_.symm
    have pi : ((i : Int) < (b.slots.length : Int)) = True := eq_true (by have := HL.out; omega)
    have HI := ak (show i < b.slots.length by have := HL.out; omega)
    have hji := vS hix
    have Cf := ak (show ((eF b.attrs a : Nat) : Int) = (j : Int) + 1 by unfold eF; rw [hix]; show ((j + 1 : Nat) : Int) = _; omega)
    have xp := ak (show M = (eh b.attrs a).map vc by unfold eh; rw [hix]; exact xw.out)
    rw [show si (some j) = (j : Int) from rfl]
    have Un : j < 100 := by omega
    have hneg : decide ((j : Int) < 0) = false := decide_eq_false (by omega)
    clear hix
    have jX := aJ.out.cell 2 _ rfl
    have lF := (ln aX.out i HI.out).1
    have te := (ln aX.out i HI.out).2
    have Hq := aJ.out.cell 3 _ rfl
    go_wp2_with fail
    generalize bR : W.setCell ⟨gs, i, none⟩ (.int .i64 ((j : Int) + 1)) = W1; have J : W.grownBy W1 (some gs) := (by rw [← bR]; exact (mQ aX.out i HI.out ((j : Int) + 1)).2); have ah := ak (aJ.out.grown J (aJ.out.ne_row aX.out (by decide))); have jG := ak (gO.out.grown J (gO.out.ne_row aX.out (by decide))); have bM := ak (br.out.grown J (br.out.ne_row aX.out (by decide))); have bd := ak ((mQ aX.out i HI.out ((j : Int) + 1)).1); have bp := ak (Kd.R_grown bw.out J (fun k_ cD => cD)); have bH := ak (Kd.R_over bD.out aX.out (by decide) J); have ai := ak (ae.out.grown J ae.out.size (by intro k hk; cases hk; exact Nat.le_trans tB.out (Kd.R_base aX.out gs rfl))); rw [bR] at bd; clear bR J aJ gO br aX bw bD ae jX lF te Hq
    obtain ⟨sl, hsl⟩ : ∃ sl, sl = b.slots.set i ((j : Int) + 1) := ⟨_, rfl⟩
    have HSL := ak (show (fG b i a).slots = sl by rw [hsl]; show b.slots.set i ((eF b.attrs a : Nat) : Int) = _; rw [Cf.out])
    have HSN := ak (show b.slots.length = sl.length by rw [hsl, List.length_set])
    rw [← hsl] at bd
    clear hsl
    obtain ⟨b2, eL⟩ : ∃ b2, b2 = W1.heap.size := ⟨_, rfl⟩
    have HS' := ak (Kd.R_mono (ok' := fun k => k < b2) (Kd.R_bound bd.out) (fun k hk => by have := hk.2.2.1; omega))
    have HF' := ak (Kd.R_mono (ok' := fun k => k < b2) (Kd.R_bound bp.out) (fun k hk => by have := hk.2.2.1; omega))
    have uD := ak (show b2 ≤ W1.heap.size by omega)
    have HWB := ak (show w.heap.size ≤ b2 by have := ai.out.size; omega)
    clear eL
    clear vT DQ pi
    go_loopw [10, 12, 48] (fun q _ u W => ∃ k : Nat, k ≤ b.free.length ∧ u = .int .i64 k ∧ Aside0 (aH W gX (da b.addr b.aff (.slice (some ⟨gs, 0, none⟩) b.slots.length cs) (.slice Af b.free.length cf) (.slice Aa M.length ca)) 62) ∧ Aside0 (aH W gZ dG 62) ∧ Aside0 (Kd.R (Kd.int .i64) 3 W b1 (fun k => k < b2) (.slice (some ⟨gs, 0, none⟩) b.slots.length cs) sl) ∧ Aside0 (Kd.R (Kd.int .i64) 3 W b1 (fun k => k < b2) (.slice Af b.free.length cf) b.free) ∧ Aside0 (Kd.R g8 76 W b1 (fun _ => True) (.slice Aa M.length ca) M) ∧ Aside0 (Kd.R (Kd.int .i64) 3 W b2 (fun _ => True) q ((b.free.take k).filter (fQ (i : Int)))) ∧ Aside0 (b2 ≤ W.heap.size) ∧ Aside0 (Below w.heap.size w W)) (fun _ _ u _ => b.free.length - (intOf u).toNat)
    case atStart => exact ⟨0, by omega, rfl, ah, bM, HS', HF', bH, ⟨Kd.R_nil _ _ _ _ _⟩, uD, ai⟩
    case round =>
     clear HS' HF' uD ah jG bM bd bp bH ai
     obtain ⟨k, ni, rfl, aJ, br, aX, bw, bD, g5, gD, ae⟩ := hrel
     obtain ⟨W, rfl⟩ : ∃ W : World, W = wr := ⟨_, rfl⟩
     have hfl := HFL.out
     by_cases hkm : k < b.free.length
     ·have hkb : decide ((k : Int) < (b.free.length : Int)) = true := by simp; omega
      obtain ⟨ad, eA, hx⟩ := Kd.at_int (Kd.R_reads' bw.out).2.2 k (by omega) (by omega)
      cases eA
      rw [Int.toNat_natCast] at hx
      have p1 : ((k : Int) < (b.free.length : Int)) = True := eq_true (by omega)
      have hrd : rd b.free k = b.free[k] := by simp [rd, List.getD, hkm]
      have hkt := y7 b.free (i : Int) k hkm
      obtain ⟨x, hxx⟩ : ∃ x, x = b.free[k] := ⟨_, rfl⟩
      rw [← hxx] at hrd hkt
      rw [hrd] at hx
      obtain ⟨lk, hlk⟩ : ∃ lk, lk = (b.free.take k).filter (fQ (i : Int)) := ⟨_, rfl⟩
      have HLL := ak (show lk.length ≤ 1000 by rw [hlk]; have h1 := List.length_filter_le (fQ (i : Int)) (b.free.take k); rw [List.length_take] at h1; omega)
      rw [← hlk] at g5 hkt
      obtain ⟨Al, cl, rfl⟩ := Kd.R_slice g5.out
      cases hq : (x == (i : Int)) with
      | true =>
       have vG : (x != (i : Int)) = false := by rw [bne, hq]; rfl
       have HKT := ak (show (b.free.take (k + 1)).filter (fQ (i : Int)) = lk by rw [hkt, hq]; simp)
       clear hrd hkt hxx hlk
       go_wp2_with fail
       go_roundw
       case rel => exact ⟨k + 1, by omega, by go_num, aJ, br, aX, bw, bD, ⟨by rw [HKT.out]; exact g5.out⟩, gD, ae⟩
       case measure => simp [intOf]; omega
      | false =>
       have vG : (x != (i : Int)) = true := by rw [bne, hq]; rfl
       obtain ⟨l1, vI⟩ : ∃ l1, l1 = lk ++ [x] := ⟨_, rfl⟩
       have rI := ak vI
       have HKT := ak (show (b.free.take (k + 1)).filter (fQ (i : Int)) = l1 by rw [hkt, hq, vI]; simp)
       clear hrd hkt hxx hlk vI
       go_wp2_with (first
        | ((with_reducible refine cz (b := .append) (xs := #[.tmp 55, .tmp 57]) rfl ?_); at_builtin; refine Kd.R_append (Kd.int .i64) (w0 := W) b2 rfl (.tmp 55) (.tmp 57) 31 3 (.int .i64 0) 8 rfl Try.underlying31 AR rfl (by decide) (by omega) _ lk x [.int .i64 x] (fun _ => True) (fun _ => False) rfl rfl rfl (fun _ hk => hk.elim) (fun _ _ => trivial) g5.out (Below.refl _ _) gD.out (by have := HLL.out; omega) ?_; intro v_ W1 aW I J fm; rw [← rI.out] at aW; have ah := ak (aJ.out.grown J (aJ.out.ne_row g5.out (by decide))); have bM := ak (br.out.grown J (br.out.ne_row g5.out (by decide))); have bd := ak (vk aX.out (fun _ h_ => h_) g5.out J); have bp := ak (vk bw.out (fun _ h_ => h_) g5.out J); have bH := ak (Kd.R_over bD.out g5.out (by decide) J); have tA := ak (aW); have iG := ak (Nat.le_trans gD.out J.size); have ai := ak (ae.out.trans (I.mono HWB.out)); obtain ⟨AL, cL, rfl⟩ := Kd.R_slice aW; clear aW I J fm aJ br aX bw bD g5 gD ae))
       go_roundw
       case rel => exact ⟨k + 1, by omega, by go_num, ah, bM, bd, bp, bH, ⟨by rw [HKT.out]; exact tA.out⟩, iG, ai⟩
       case measure => simp [intOf]; omega
     ·obtain rfl : k = b.free.length := by omega
      have hkb : decide ((b.free.length : Int) < (b.free.length : Int)) = false := by simp
      rw [List.take_of_length_le (Nat.le_refl b.free.length)] at g5
      obtain ⟨lk, hlk⟩ : ∃ lk, lk = b.free.filter (fQ (i : Int)) := ⟨_, rfl⟩
      rw [← hlk] at g5
      have HGB := ak (show fG b i a = ⟨b.addr, b.aff, sl, lk, eh b.attrs a⟩ by rw [hlk, ← HSL.out]; rfl)
      obtain ⟨Al, cl, rfl⟩ := Kd.R_slice g5.out
      clear hlk hfl
      have ot := aJ.out.cell 3 _ rfl
      have Gt := aJ.out.frozen 3
      go_wp2_with (first
       | ((with_reducible refine ax (N := 62) rfl ?_); generalize bR : W.setCell ⟨gX, 3, none⟩ (.slice Al lk.length cl) = W1; have J : W.grownBy W1 (some gX) := (by rw [← bR]; exact bO _ _ _ _); have ah := ak (aJ.out.set 3 (.slice Al lk.length cl)); have bM := gm br aG J; have bd := gr aX aJ J; have bp := gr bw aJ J; have bH := gr bD aJ J; have tA := gr g5 aJ J; have iG := ak (Nat.le_trans gD.out J.size); have ai := gb ae bQ J; rw [bR] at ah; clear bR J aJ br aX bw bD g5 gD ae ot Gt; refine az rfl 62 (.tmp 3) rfl gX rfl _ _ _ ah.out Try.underlying62 rfl 5 (by kernel_rfl) rfl ?_)
       | (refine aN rfl 62 (.tmp 6) (.tmp 62) rfl gZ (da b.addr b.aff (.slice (some ⟨gs, 0, none⟩) b.slots.length cs) (.slice Al lk.length cl) (.slice Aa M.length ca)) rfl rfl 62 _ bM.out 5 (by kernel_rfl) rfl rfl (dJ _ _ rfl rfl rfl) ?_; intro W2 aa J; have au := gn ah aG J; have bY := ak (aa); have bC := gr bd bM J; have bT := gr bp bM J; have b9 := gr bH bM J; have G0 := gr tA bM J; have b8 := ak (Nat.le_trans iG.out J.size); have av := gb ai bN J; clear aa J ah bM bd bp bH tA iG ai))
      refine bodyPost_ret (results_cell_row rfl _ _ gZ 62 _ (0, 0) _ rfl bY.out Try.underlying62 rfl (by kernel_rfl)) rfl ⟨_, rfl, ?_, av.out⟩
      rw [HGB.out]
      refine ⟨_, _, _, rfl, ?_, ?_, ?_⟩
      ·exact Kd.R_lower (Kd.R_mono bC.out (fun _ _ => trivial)) cn.out
      ·exact Kd.R_lower G0.out HWB.out
      ·rw [← xp.out]; exact Kd.R_lower b9.out cn.out
   | none =>
    obtain ⟨gs, rfl⟩ := nF aX.out (by have := HL.out; omega)
    have HBS := ak (show b1 ≤ W.heap.size by
     have h1 := Kd.R_lt aX.out gs rfl
     have h2 := Kd.R_base aX.out gs rfl
     omega)
    have tB := cn
    have vT : gX ≠ gs := fun e_ => (aJ.out.ne_row aX.out (by decide)) (by rw [e_]; rfl)
    have DQ : gs ≠ gX := fun e_ => vT e_.symm
    have pi : ((i : Int) < (b.slots.length : Int)) = True := eq_true (by have := HL.out; omega)
    have HI := ak (show i < b.slots.length by have := HL.out; omega)
    have Cf := ak (show ((eF b.attrs a : Nat) : Int) = (M.length : Int) + 1 by unfold eF; rw [hix, HML.out]; show ((b.attrs.length + 1 : Nat) : Int) = _; omega)
    have uk : M ++ [vc a] = (eh b.attrs a).map vc := by unfold eh; rw [hix, List.map_append, ← xw.out]; rfl
    rw [show si none = (-1 : Int) from rfl]
    clear hix
    have LJ := aJ.out.cell 4 _ rfl
    have DS := gO.out.cell 0 _ rfl
    have DR := gO.out.cell 1 _ rfl
    obtain ⟨M1, Bj⟩ : ∃ M1, M1 = M ++ [vc a] := ⟨_, rfl⟩
    have Ix := ak Bj
    have xp := ak (show M1 = (eh b.attrs a).map vc by rw [Bj, uk])
    clear Bj uk
    go_wp2_with (first
     | ((with_reducible refine cz (b := .append) (xs := #[.tmp 34, .tmp 36]) rfl ?_); at_builtin; refine Kd.R_append g8 (w0 := W) b1 rfl (.tmp 34) (.tmp 36) 49 76 (.agg #[.string ⟨#[]⟩, .string ⟨#[]⟩]) 32 rfl Try.underlying49 vR rfl (by decide) (by omega) _ M (vc a) [.string (vc a).f0, .string (vc a).f1] (fun _ => True) (fun _ => False) rfl rfl (yy _ _ _ _) (fun _ hk => hk.elim) (fun _ _ => trivial) bD.out (Below.refl _ _) HBS.out (by omega) ?_; intro v_ W1 aW I J fm; rw [← Ix.out] at aW; have ah := ak (aJ.out.grown J (aJ.out.ne_row bD.out (by decide))); have jG := ak (gO.out.grown J (fun e_ => by have h_ := Kd.R_base bD.out _ e_.symm; have Bl := HGL.out; omega)); have bM := ak (br.out.grown J (br.out.ne_row bD.out (by decide))); have bd := ak (Kd.R_over aX.out bD.out (by decide) J); have bp := ak (Kd.R_over bw.out bD.out (by decide) J); have bH := ak (aW); have ai := ak (ae.out.trans (I.mono cn.out)); obtain ⟨AM, cM, rfl⟩ := Kd.R_slice aW; have mA := ah.out.cell 4 _ rfl; have Bb := ah.out.frozen 4; have jX := ah.out.cell 2 _ rfl; have Hq := ah.out.cell 3 _ rfl; have lF := (ln bd.out i HI.out).1; have te := (ln bd.out i HI.out).2; clear aW I J fm aJ gO br aX bw bD ae LJ DS DR))
    generalize bR : W1.setCell ⟨gX, 4, none⟩ (.slice AM M1.length cM) = W2; have J : W1.grownBy W2 (some gX) := (by rw [← bR]; exact bO _ _ _ _); have au := ak (ah.out.set 4 (.slice AM M1.length cM)); have cd := gx jG ah J; have bY := gm bM aG J; have bC := gr bd ah J; have bT := gr bp ah J; have b9 := gr bH ah J; have av := gb ai bQ J; rw [bR] at au; clear bR J ah jG bM bd bp bH ai mA Bb jX Hq lF te
    generalize bR : W2.setCell ⟨gs, i, none⟩ (.int .i64 ((M.length : Int) + 1)) = W3; have J : W2.grownBy W3 (some gs) := (by rw [← bR]; exact (mQ bC.out i HI.out ((M.length : Int) + 1)).2); have aA := ak (au.out.grown J (au.out.ne_row bC.out (by decide))); have dq := ak (cd.out.grown J (cd.out.ne_row bC.out (by decide))); have bL := ak (bY.out.grown J (bY.out.ne_row bC.out (by decide))); have bU := ak ((mQ bC.out i HI.out ((M.length : Int) + 1)).1); have cj := ak (Kd.R_grown bT.out J (fun k_ cD => cD)); have cN := ak (Kd.R_over b9.out bC.out (by decide) J); have aD := ak (av.out.grown J av.out.size (by intro k hk; cases hk; exact Nat.le_trans tB.out (Kd.R_base bC.out gs rfl))); rw [bR] at bU; clear bR J au cd bY bC bT b9 av
    obtain ⟨sl, hsl⟩ : ∃ sl, sl = b.slots.set i ((M.length : Int) + 1) := ⟨_, rfl⟩
    have HSL := ak (show (fG b i a).slots = sl by rw [hsl]; show b.slots.set i ((eF b.attrs a : Nat) : Int) = _; rw [Cf.out])
    have HSN := ak (show b.slots.length = sl.length by rw [hsl, List.length_set])
    rw [← hsl] at bU
    clear hsl
    obtain ⟨b2, eL⟩ : ∃ b2, b2 = W3.heap.size := ⟨_, rfl⟩
    have HS' := ak (Kd.R_mono (ok' := fun k => k < b2) (Kd.R_bound bU.out) (fun k hk => by have := hk.2.2.1; omega))
    have HF' := ak (Kd.R_mono (ok' := fun k => k < b2) (Kd.R_bound cj.out) (fun k hk => by have := hk.2.2.1; omega))
    have uD := ak (show b2 ≤ W3.heap.size by omega)
    have HWB := ak (show w.heap.size ≤ b2 by have := aD.out.size; omega)
    clear eL
    clear vT DQ pi
    go_loopw [10, 12, 48] (fun q _ u W => ∃ k : Nat, k ≤ b.free.length ∧ u = .int .i64 k ∧ Aside0 (aH W gX (da b.addr b.aff (.slice (some ⟨gs, 0, none⟩) b.slots.length cs) (.slice Af b.free.length cf) (.slice AM M1.length cM)) 62) ∧ Aside0 (aH W gZ dG 62) ∧ Aside0 (Kd.R (Kd.int .i64) 3 W b1 (fun k => k < b2) (.slice (some ⟨gs, 0, none⟩) b.slots.length cs) sl) ∧ Aside0 (Kd.R (Kd.int .i64) 3 W b1 (fun k => k < b2) (.slice Af b.free.length cf) b.free) ∧ Aside0 (Kd.R g8 76 W b1 (fun _ => True) (.slice AM M1.length cM) M1) ∧ Aside0 (Kd.R (Kd.int .i64) 3 W b2 (fun _ => True) q ((b.free.take k).filter (fQ (i : Int)))) ∧ Aside0 (b2 ≤ W.heap.size) ∧ Aside0 (Below w.heap.size w W)) (fun _ _ u _ => b.free.length - (intOf u).toNat)
    case atStart => exact ⟨0, by omega, rfl, aA, bL, HS', HF', cN, ⟨Kd.R_nil _ _ _ _ _⟩, uD, aD⟩
    case round =>
     clear HS' HF' uD aA dq bL bU cj cN aD
     obtain ⟨k, ni, rfl, aJ, br, aX, bw, bD, g5, gD, ae⟩ := hrel
     obtain ⟨W, rfl⟩ : ∃ W : World, W = wr := ⟨_, rfl⟩
     have hfl := HFL.out
     by_cases hkm : k < b.free.length
     ·have hkb : decide ((k : Int) < (b.free.length : Int)) = true := by simp; omega
      obtain ⟨ad, eA, hx⟩ := Kd.at_int (Kd.R_reads' bw.out).2.2 k (by omega) (by omega)
      cases eA
      rw [Int.toNat_natCast] at hx
      have p1 : ((k : Int) < (b.free.length : Int)) = True := eq_true (by omega)
      have hrd : rd b.free k = b.free[k] := by simp [rd, List.getD, hkm]
      have hkt := y7 b.free (i : Int) k hkm
      obtain ⟨x, hxx⟩ : ∃ x, x = b.free[k] := ⟨_, rfl⟩
      rw [← hxx] at hrd hkt
      rw [hrd] at hx
      obtain ⟨lk, hlk⟩ : ∃ lk, lk = (b.free.take k).filter (fQ (i : Int)) := ⟨_, rfl⟩
      have HLL := ak (show lk.length ≤ 1000 by rw [hlk]; have h1 := List.length_filter_le (fQ (i : Int)) (b.free.take k); rw [List.length_take] at h1; omega)
      rw [← hlk] at g5 hkt
      obtain ⟨Al, cl, rfl⟩ := Kd.R_slice g5.out
      cases hq : (x == (i : Int)) with
      | true =>
       have vG : (x != (i : Int)) = false := by rw [bne, hq]; rfl
       have HKT := ak (show (b.free.take (k + 1)).filter (fQ (i : Int)) = lk by rw [hkt, hq]; simp)
       clear hrd hkt hxx hlk
       go_wp2_with fail
       go_roundw
       case rel => exact ⟨k + 1, by omega, by go_num, aJ, br, aX, bw, bD, ⟨by rw [HKT.out]; exact g5.out⟩, gD, ae⟩
       case measure => simp [intOf]; omega
      | false =>
       have vG : (x != (i : Int)) = true := by rw [bne, hq]; rfl
       obtain ⟨l1, vI⟩ : ∃ l1, l1 = lk ++ [x] := ⟨_, rfl⟩
       have rI := ak vI
       have HKT := ak (show (b.free.take (k + 1)).filter (fQ (i : Int)) = l1 by rw [hkt, hq, vI]; simp)
       clear hrd hkt hxx hlk vI
       go_wp2_with (first
        | ((with_reducible refine cz (b := .append) (xs := #[.tmp 55, .tmp 57]) rfl ?_); at_builtin; refine Kd.R_append (Kd.int .i64) (w0 := W) b2 rfl (.tmp 55) (.tmp 57) 31 3 (.int .i64 0) 8 rfl Try.underlying31 AR rfl (by decide) (by omega) _ lk x [.int .i64 x] (fun _ => True) (fun _ => False) rfl rfl rfl (fun _ hk => hk.elim) (fun _ _ => trivial) g5.out (Below.refl _ _) gD.out (by have := HLL.out; omega) ?_; intro v_ W1 aW I J fm; rw [← rI.out] at aW; have ah := ak (aJ.out.grown J (aJ.out.ne_row g5.out (by decide))); have bM := ak (br.out.grown J (br.out.ne_row g5.out (by decide))); have bd := ak (vk aX.out (fun _ h_ => h_) g5.out J); have bp := ak (vk bw.out (fun _ h_ => h_) g5.out J); have bH := ak (Kd.R_over bD.out g5.out (by decide) J); have tA := ak (aW); have iG := ak (Nat.le_trans gD.out J.size); have ai := ak (ae.out.trans (I.mono HWB.out)); obtain ⟨AL, cL, rfl⟩ := Kd.R_slice aW; clear aW I J fm aJ br aX bw bD g5 gD ae))
       go_roundw
       case rel => exact ⟨k + 1, by omega, by go_num, ah, bM, bd, bp, bH, ⟨by rw [HKT.out]; exact tA.out⟩, iG, ai⟩
       case measure => simp [intOf]; omega
     ·obtain rfl : k = b.free.length := by omega
      have hkb : decide ((b.free.length : Int) < (b.free.length : Int)) = false := by simp
      rw [List.take_of_length_le (Nat.le_refl b.free.length)] at g5
      obtain ⟨lk, hlk⟩ : ∃ lk, lk = b.free.filter (fQ (i : Int)) := ⟨_, rfl⟩
      rw [← hlk] at g5
      have HGB := ak (show fG b i a = ⟨b.addr, b.aff, sl, lk, eh b.attrs a⟩ by rw [hlk, ← HSL.out]; rfl)
      obtain ⟨Al, cl, rfl⟩ := Kd.R_slice g5.out
      clear hlk hfl
      have ot := aJ.out.cell 3 _ rfl
      have Gt := aJ.out.frozen 3
      go_wp2_with (first
       | ((with_reducible refine ax (N := 62) rfl ?_); generalize bR : W.setCell ⟨gX, 3, none⟩ (.slice Al lk.length cl) = W1; have J : W.grownBy W1 (some gX) := (by rw [← bR]; exact bO _ _ _ _); have ah := ak (aJ.out.set 3 (.slice Al lk.length cl)); have bM := gm br aG J; have bd := gr aX aJ J; have bp := gr bw aJ J; have bH := gr bD aJ J; have tA := gr g5 aJ J; have iG := ak (Nat.le_trans gD.out J.size); have ai := gb ae bQ J; rw [bR] at ah; clear bR J aJ br aX bw bD g5 gD ae ot Gt; refine az rfl 62 (.tmp 3) rfl gX rfl _ _ _ ah.out Try.underlying62 rfl 5 (by kernel_rfl) rfl ?_)
       | (refine aN rfl 62 (.tmp 6) (.tmp 62) rfl gZ (da b.addr b.aff (.slice (some ⟨gs, 0, none⟩) b.slots.length cs) (.slice Al lk.length cl) (.slice AM M1.length cM)) rfl rfl 62 _ bM.out 5 (by kernel_rfl) rfl rfl (dJ _ _ rfl rfl rfl) ?_; intro W2 aa J; have au := gn ah aG J; have bY := ak (aa); have bC := gr bd bM J; have bT := gr bp bM J; have b9 := gr bH bM J; have G0 := gr tA bM J; have b8 := ak (Nat.le_trans iG.out J.size); have av := gb ai bN J; clear aa J ah bM bd bp bH tA iG ai))
      refine bodyPost_ret (results_cell_row rfl _ _ gZ 62 _ (0, 0) _ rfl bY.out Try.underlying62 rfl (by kernel_rfl)) rfl ⟨_, rfl, ?_, av.out⟩
      rw [HGB.out]
      refine ⟨_, _, _, rfl, ?_, ?_, ?_⟩
      ·exact Kd.R_lower (Kd.R_mono bC.out (fun _ _ => trivial)) cn.out
      ·exact Kd.R_lower G0.out HWB.out
      ·rw [← xp.out]; exact Kd.R_lower b9.out cn.out
end Go.Proofs.Ytemhalnhbgkbcaa.V
end

section
namespace Go.Proofs.Ytemhalnhbgkbcaa.V
def kR (k : Nat) (s : Int) : Int := if s > (k : Int) + 1 then s - 1 else s
def jY (b : Bk) (k : Nat) : Bk := ⟨b.addr, b.aff, b.slots.map (kR k), b.free, b.attrs.take k ++ b.attrs.drop (k + 1)⟩
def my (k : Nat) (l : List Int) (j : Nat) : List Int := (l.take j).map (kR k) ++ l.drop j
theorem AE (k : Nat) (l : List Int) (j : Nat) (h : j < l.length) : rd (my k l j) j = l[j] := by
 unfold my rd
 have e : ((l.take j).map (kR k)).length = j := by rw [List.length_map, List.length_take]; omega
 rw [Int.toNat_natCast, List.getD_eq_getElem?_getD, List.getElem?_append_right (by omega), e, Nat.sub_self, List.getElem?_drop, Nat.add_zero, List.getElem?_eq_getElem h]
 rfl
theorem AD (k : Nat) (l : List Int) (j : Nat) (h : j < l.length) : (my k l j).set j (kR k l[j]) = my k l (j + 1) := by
 unfold my
 have e : ((l.take j).map (kR k)).length = j := by rw [List.length_map, List.length_take]; omega
 rw [List.set_append, if_neg (by omega), e, Nat.sub_self, List.drop_eq_getElem_cons h, List.set_cons_zero, List.take_succ_eq_append_getElem h, List.map_append]
 simp
theorem y6 (k : Nat) (l : List Int) (j : Nat) (h : j < l.length) (hs : kR k l[j] = l[j]) : my k l (j + 1) = my k l j := by
 unfold my
 rw [List.take_succ_eq_append_getElem h, List.map_append, List.drop_eq_getElem_cons h]
 simp [hs]
theorem AG (k : Nat) (l : List Int) : my k l l.length = l.map (kR k) := by simp [my]
def oF.T2 : Bool × List (List Nat × List Nat) := (true, [([], []), ([0], [0]), ([], []), ([1, 2], [1, 2]), ([], []), ([4], [4]), ([], []), ([6], [6]), ([5, 7], [5, 7]), ([3, 8], [3, 8]), ([0, 1, 2, 3, 4, 5, 6, 7, 8, 9], []), ([10, 9, 9, 0, 1, 2, 3, 4, 5, 6, 7, 8, 9], [9, 10])])
def oF.B2 : List Nat := [0, 1, 0, 7, 0, 16, 0, 64, 240, 511, 1023, 2047]
theorem oF.tab2 : dC .any (opsOf Try.f108 2) = oF.T2 := by kernel_rfl
theorem oF.bits2 : cU oF.T2.2 oF.B2 = true := by kernel_rfl
set_option maxHeartbeats 16000000 in
set_option maxRecDepth 100000 in
theorem GH (b : Bk) (hl : b.slots.length = 64) (Oi : nE b.slots) (hf : b.free.length ≤ 5000) (ha : b.attrs.length ≤ 100) (k : Nat) (hk : k < b.attrs.length) (v : Value) (w : World) (h : jd w v b) :
  Calls Try.prog 108 #[v, .int .i64 k] w fun e w' => ∃ v', e = .returned v' ∧ eG w' w.heap.size v' (jY b k) ∧ Below w.heap.size w w' := by
 obtain ⟨M, FQ, Fo, FR, Ft, FT, Fv, rfl, hr⟩ := h
 have xw := ak hr.m
 have hml : M.length = b.attrs.length := by rw [hr.m, List.length_map]
 have HR := ak hr
 have HL := ak hl
 have OD := ak Oi
 have AW : M.length ≤ 100 := by omega
 have hkm : k < M.length := by omega
 have HCP := ak (fun w h => zP b (by omega) hf M (by omega) FQ Fo FR Ft FT Fv w h)
 have ae := ak (Below.refl w.heap.size w)
 clear hr hl hml hf Oi
 go_enter Try.func108, Try.ntmps108
 go_wp2_with (first
  | (refine aE rfl 62 (.tmp 0) rfl _ rfl ?_; intro gX W1 J aa I; have bQ := ge ae J; have ai := ak (ae.out.trans (I.mono ae.out.size)); have ah := ak (aa); clear J aa I ae)
  | (refine aw (some 4) rfl rfl 62 rfl dG (fun _ => by kernel_rfl) ?_; intro gZ W2 J aa I; have bN := ge ai J; have aG := ne ah J; have av := mv I ai; have au := mv I ah; have bY := ak (aa); clear J aa I ai ah)
  | ((with_reducible refine ax (N := 7) rfl ?_); go_loud (refine az rfl 62 (.tmp 2) rfl gX rfl _ _ _ au.out Try.underlying62 rfl 5 (by kernel_rfl) rfl ?_))
  | (go_at_call 85; go_loud (refine (HCP.out _ (HR.out.below av.out)).mono ?_; rintro e W3 ⟨vs, vf, va, rfl, sR, di, dO, I⟩; obtain ⟨As, cs, rfl⟩ := Kd.R_slice sR; obtain ⟨Af, cf, rfl⟩ := Kd.R_slice di; obtain ⟨Aa, ca, rfl⟩ := Kd.R_slice dO; have HSZ := ak av.out.size; have aD := mv I av; have aA := mv I au; have bL := mv I bY; have bU := ak (sR); have cj := ak (di); have cN := ak (dO); have b7 := ak (I.size); clear sR di dO I av au bY))
  | (go_loud (refine aN rfl 62 (.tmp 2) (.tmp 8) rfl gX (da b.addr b.aff (.slice As b.slots.length cs) (.slice Af b.free.length cf) (.slice Aa M.length ca)) rfl rfl 62 _ aA.out 5 (by kernel_rfl) rfl rfl (dJ _ _ rfl rfl rfl) ?_; intro W4 aa J; have aY := gb aD bQ J; have aV := ak (aa); have a8 := gm bL aG J; have cx := gr bU aA J; have ch := gr cj aA J; have cR := gr cN aA J; have bZ := ak (Nat.le_trans b7.out J.size); clear aa J aD aA bL bU cj cN b7)))
 obtain ⟨b1, cy⟩ : ∃ b1, b1 = W2.heap.size := ⟨_, rfl⟩
 rw [← cy] at cx ch cR bZ HSZ
 have cn := ak (show w.heap.size ≤ b1 from HSZ.out)
 clear cy HSZ
 have aj : Below W4.heap.size W4 W4.drew := bo (Below.refl _ _)
 have bf := mv aj aY; have bb := mv aj aV; have bu := mv aj a8; have cJ := mv aj cx; have cb := mv aj ch; have cG := mv aj cR; have cB := ak (Nat.le_trans bZ.out aj.size)
 clear aj aY aV a8 cx ch cR bZ
 obtain ⟨gs, rfl⟩ := nF cJ.out (by have := HL.out; omega)
 obtain ⟨ga, rfl⟩ := nF cG.out (by omega)
 have hca : M.length ≤ ca := (Kd.R_reads' cG.out).2.1
 have HTK := ak (Kd.R_take cG.out (m := k) (by omega))
 have hdr := Kd.C_drop (m := k + 1) (Kd.R_reads' cG.out).2.2 (by omega) hca
 rw [show (M.drop (k + 1)).length = M.length - (k + 1) from List.length_drop] at hdr
 have HDR := ak hdr
 have p1 : ((k : Int) ≤ (ca : Int)) = True := eq_true (by omega)
 have p2 : ((k : Int) + 1 ≤ (M.length : Int)) = True := eq_true (by omega)
 have p3 : ((k : Int) ≤ (k : Int) + 1) = True := eq_true (by omega)
 have p4 : ((0 : Int) ≤ (k : Int) + 1) = True := eq_true (by omega)
 have Ul : wrap64 ((k : Int) + 1) = (k : Int) + 1 := iB _ (by omega) (by omega)
 clear hdr
 obtain ⟨M1, Bj⟩ : ∃ M1, M1 = M.take k ++ M.drop (k + 1) := ⟨_, rfl⟩
 have Ix := ak Bj
 have zs := ak (show M1 = (b.attrs.take k ++ b.attrs.drop (k + 1)).map vc by rw [Bj, xw.out, List.map_append, List.map_take, List.map_drop])
 clear Bj
 by_cases hne : ca = k + 1
 ·subst hne
  have h_ := HDR.out
  rw [if_pos rfl, show M.length - (k + 1) = 0 by omega] at h_
  have G2 := ak h_
  clear h_
  refine cW (n := 12) (S := fun w' => w'.cell? ⟨gX, 4, none⟩ = some (.slice (some ⟨ga, 0, none⟩) M.length (k + 1))) (ds := [11]) #[false, false, false, false, false, false, false, false, false, false, false, false] (by kernel_rfl) rfl rfl (bb.out.cell 4 _ rfl) (fun hHeld => ?_); refine bK oF.tab2 oF.bits2 (fun ab bj => ?_)
  refine pu 0 ab.out ?_
  refine tk 1 ab.out bj.out hHeld ?_
  refine pu 2 ab.out ?_
  refine pu 3 ab.out ?_
  refine pu 4 ab.out ?_
  refine tk 5 ab.out bj.out hHeld ?_
  refine pu 6 ab.out ?_
  refine pu 7 ab.out ?_
  refine pu 8 ab.out ?_
  refine on 9 ab.out (fun K hK => ?_)
  refine Kd.R_append_rows_step g8 (Rr := g8.K _) (w0 := W4.drew) b1 (by rfl) (.tmp 12) (.tmp 17) 49 76 (.agg #[.string ⟨#[]⟩, .string ⟨#[]⟩]) 32 rfl Try.underlying49 vR rfl (by decide) (by omega) (.slice (some ⟨ga, 0, none⟩) k (k + 1)) (M.take k) (M.drop (k + 1)) (some ⟨ga, 0, none⟩) 0 0 (fun _ => True) (fun _ => False) rfl rfl HTK.out G2.out (fun x cs aa => by rw [vQ aa]; exact yy _ _ _ _) (fun _ h_ => h_.elim) (fun _ _ => trivial) (Below.refl _ _) cB.out (by rw [List.length_take]; omega) ?_
  intro v_ V1 aW I J fm
  replace J : W4.drew.grownBy V1 (Value.slice (some ⟨ga, 0, none⟩) M.length (k + 1)).ownBlock := J
  rw [← Ix.out] at aW
  have bG := ak (bf.out.trans (I.mono cn.out)); have bh := ak (bb.out.grown J (bb.out.ne_row cG.out (by decide))); have bS := ak (bu.out.grown J (bu.out.ne_row cG.out (by decide))); have cY := ak (Kd.R_over cJ.out cG.out (by decide) J); have cQ := ak (Kd.R_over cb.out cG.out (by decide) J); have dD := ak (aW); have cX := ak (Nat.le_trans cB.out J.size)
  obtain ⟨AM, cM, rfl⟩ := Kd.R_slice aW
  clear aW I J fm bf bb bu cJ cb cG cB
  refine kn hK (bh.out.cell 4 _ rfl) (fun hHeld => ?_)
  clear hK K
  refine pu 10 ab.out ?_
  refine pr (i := 11) (N := none) #[true, true, true, true, true, true, true, true, true, true, true, true] rfl rfl (lL ab.out (by kernel_rfl)) (by decide) (fun K hK => ?_)
  have Bb := bh.out.frozen 4; have mA := bh.out.cell 4 _ rfl
  refine oA (w1 := ?_) (by rfl) rfl ?_ ?_
  rotate_left
  ·go_simp
   rfl
  refine hK.out _ _ ?_
  clear hK K
  refine dn ab.out ?_
  clear Bb mA hHeld
  generalize bR : V1.setCell ⟨gX, 4, none⟩ (.slice AM M1.length cM) = W7; have J : V1.grownBy W7 (some gX) := (by rw [← bR]; exact bO _ _ _ _); have dU := gb bG bQ J; have dj := ak (bh.out.set 4 (.slice AM M1.length cM)); have dz := gm bS aG J; have fN := gr cY bh J; have eZ := gr cQ bh J; have jF := gr dD bh J; have iN := ak (Nat.le_trans cX.out J.size); rw [bR] at dj; clear bR J bG bh bS cY cQ dD cX
  have tB := cn
  have jX := dj.out.cell 2 _ rfl
  go_wp2_with fail
  clear jX
  go_loopw [5, 6, 23] (fun _ _ u W => ∃ j : Nat, j ≤ 64 ∧ u = .int .i64 j ∧ Aside0 (aH W gX (da b.addr b.aff (.slice (some ⟨gs, 0, none⟩) b.slots.length cs) (.slice Af b.free.length cf) (.slice AM M1.length cM)) 62) ∧ Aside0 (aH W gZ dG 62) ∧ Aside0 (Kd.R (Kd.int .i64) 3 W b1 (fun k => some k ≠ (Value.slice Af b.free.length cf).ownBlock) (.slice (some ⟨gs, 0, none⟩) b.slots.length cs) (my k b.slots j)) ∧ Aside0 (Kd.R (Kd.int .i64) 3 W b1 (fun k => some k ≠ (Value.slice (some ⟨gs, 0, none⟩) b.slots.length cs).ownBlock) (.slice Af b.free.length cf) b.free) ∧ Aside0 (Kd.R g8 76 W b1 (fun _ => True) (.slice AM M1.length cM) M1) ∧ Aside0 (Below w.heap.size w W)) (fun _ _ u _ => 64 - (intOf u).toNat)
  case atStart => exact ⟨0, by omega, rfl, dj, dz, fN, eZ, jF, dU⟩
  case round =>
   clear dU dj dz fN eZ jF iN
   obtain ⟨j, hj, rfl, aJ, br, aX, bw, bD, ae⟩ := hrel
   obtain ⟨W, rfl⟩ : ∃ W : World, W = wr := ⟨_, rfl⟩
   by_cases hjn : j < 64
   ·have hkb : decide ((j : Int) < (b.slots.length : Int)) = true := by rw [HL.out]; simp; omega
    have hjl : j < b.slots.length := by rw [HL.out]; exact hjn
    have hcl := ln aX.out j hjl
    rw [AE k b.slots j hjl] at hcl
    have hms := OD.out _ (List.getElem_mem hjl)
    have hst := AD k b.slots j hjl
    have hsm := y6 k b.slots j hjl
    obtain ⟨m, hm⟩ : ∃ m : Nat, b.slots[j] = (m : Int) := ⟨(b.slots[j]).toNat, by omega⟩
    rw [hm] at hcl hms hst hsm
    have lF := hcl.1
    have pj : ((j : Int) < (b.slots.length : Int)) = True := eq_true (by omega)
    have jX := aJ.out.cell 2 _ rfl
    have sS := hms.2
    by_cases hgt : (m : Int) > (k : Int) + 1
    ·have te := hcl.2
     have HST := ak (show (my k b.slots j).set j ((m : Int) - 1) = my k b.slots (j + 1) by rw [← hst]; congr 1; unfold kR; rw [if_pos hgt])
     have HJL := ak hjl
     clear hcl hst hsm hms hm
     go_wp2_with fail
     generalize bR : W.setCell ⟨gs, j, none⟩ (.int .i64 ((m : Int) - 1)) = W1; have J : W.grownBy W1 (some gs) := (by rw [← bR]; exact (mQ aX.out j HJL.out ((m : Int) - 1)).2); have ah := ak (aJ.out.grown J (aJ.out.ne_row aX.out (by decide))); have bM := ak (br.out.grown J (br.out.ne_row aX.out (by decide))); have bd := ak ((mQ aX.out j HJL.out ((m : Int) - 1)).1); have bp := ak (Kd.R_grown bw.out J (fun k_ cD => cD)); have bH := ak (Kd.R_over bD.out aX.out (by decide) J); have ai := ak (ae.out.grown J ae.out.size (by intro k hk; cases hk; exact Nat.le_trans tB.out (Kd.R_base aX.out gs rfl))); rw [bR] at bd; clear bR J aJ br aX bw bD ae lF te jX
     rw [HST.out] at bd
     go_roundw
     case rel => exact ⟨j + 1, by omega, by go_num, ah, bM, bd, bp, bH, ai⟩
     case measure => simp [intOf]; omega
    ·have HST := ak (hsm (by unfold kR; rw [if_neg hgt]))
     clear hcl hst hsm hms hm
     go_wp2_with fail
     go_roundw
     case rel => exact ⟨j + 1, by omega, by go_num, aJ, br, ⟨by rw [HST.out]; exact aX.out⟩, bw, bD, ae⟩
     case measure => simp [intOf]; omega
   ·obtain rfl : j = 64 := by omega
    rw [show ((64 : Nat) : Int) = (64 : Int) from rfl]
    have hkb : decide ((64 : Int) < (b.slots.length : Int)) = false := by rw [HL.out]; decide
    have hall := AG k b.slots
    rw [HL.out] at hall
    rw [hall] at aX
    have HSN := ak (show b.slots.length = (b.slots.map (kR k)).length by rw [List.length_map])
    clear hall
    go_wp2_with (first
     | ((with_reducible refine ax (N := 39) rfl ?_); go_loud (refine az rfl 62 (.tmp 2) rfl gX rfl _ _ _ aJ.out Try.underlying62 rfl 5 (by kernel_rfl) rfl ?_))
     | (go_loud (refine aN rfl 62 (.tmp 4) (.tmp 39) rfl gZ (da b.addr b.aff (.slice (some ⟨gs, 0, none⟩) b.slots.length cs) (.slice Af b.free.length cf) (.slice AM M1.length cM)) rfl rfl 62 _ br.out 5 (by kernel_rfl) rfl rfl (dJ _ _ rfl rfl rfl) ?_; intro W1 aa J; have ah := gn aJ aG J; have bM := ak (aa); have bd := gr aX br J; have bp := gr bw br J; have bH := gr bD br J; have ai := gb ae bN J; clear aa J aJ br aX bw bD ae)))
    refine bodyPost_ret (results_cell_row rfl _ _ gZ 62 _ (0, 0) _ rfl bM.out Try.underlying62 rfl (by kernel_rfl)) rfl ⟨_, rfl, ⟨_, _, _, rfl, ?_, ?_, ?_⟩, ai.out⟩
    ·exact Kd.R_lower (Kd.R_mono bd.out (fun _ _ => trivial)) cn.out
    ·exact Kd.R_lower (Kd.R_mono bp.out (fun _ _ => trivial)) cn.out
    ·show Kd.R _ _ _ _ _ _ ((b.attrs.take k ++ b.attrs.drop (k + 1)).map vc)
     rw [← zs.out]
     exact Kd.R_lower bH.out cn.out
 ·have h_ := HDR.out
  rw [if_neg hne] at h_
  have e_ : (some (⟨ga, 0, none⟩ : Addr)).map (fun x => x.add ((k + 1) * g8.sz)) = some ⟨ga, (k + 1) * 2, none⟩ := by
   rw [Option.map_some, add_plain]
   rfl
  rw [e_] at h_
  clear e_
  have G2 := ak h_
  clear h_
  refine cW (n := 12) (S := fun w' => w'.cell? ⟨gX, 4, none⟩ = some (.slice (some ⟨ga, 0, none⟩) M.length ca)) (ds := [11]) #[false, false, false, false, false, false, false, false, false, false, false, false] (by kernel_rfl) rfl rfl (bb.out.cell 4 _ rfl) (fun hHeld => ?_); refine bK oF.tab2 oF.bits2 (fun ab bj => ?_)
  refine pu 0 ab.out ?_
  refine tk 1 ab.out bj.out hHeld ?_
  refine pu 2 ab.out ?_
  refine pu 3 ab.out ?_
  refine pu 4 ab.out ?_
  refine tk 5 ab.out bj.out hHeld ?_
  refine pu 6 ab.out ?_
  refine pu 7 ab.out ?_
  refine pu 8 ab.out ?_
  refine on 9 ab.out (fun K hK => ?_)
  refine Kd.R_append_rows_step g8 (Rr := g8.K _) (w0 := W4.drew) b1 (by rfl) (.tmp 12) (.tmp 17) 49 76 (.agg #[.string ⟨#[]⟩, .string ⟨#[]⟩]) 32 rfl Try.underlying49 vR rfl (by decide) (by omega) (.slice (some ⟨ga, 0, none⟩) k ca) (M.take k) (M.drop (k + 1)) (some ⟨ga, (k + 1) * 2, none⟩) (M.length - (k + 1)) (ca - (k + 1)) (fun _ => True) (fun _ => False) rfl rfl HTK.out G2.out (fun x cs aa => by rw [vQ aa]; exact yy _ _ _ _) (fun _ h_ => h_.elim) (fun _ _ => trivial) (Below.refl _ _) cB.out (by rw [List.length_take]; omega) ?_
  intro v_ V1 aW I J fm
  replace J : W4.drew.grownBy V1 (Value.slice (some ⟨ga, 0, none⟩) M.length ca).ownBlock := J
  rw [← Ix.out] at aW
  have bG := ak (bf.out.trans (I.mono cn.out)); have bh := ak (bb.out.grown J (bb.out.ne_row cG.out (by decide))); have bS := ak (bu.out.grown J (bu.out.ne_row cG.out (by decide))); have cY := ak (Kd.R_over cJ.out cG.out (by decide) J); have cQ := ak (Kd.R_over cb.out cG.out (by decide) J); have dD := ak (aW); have cX := ak (Nat.le_trans cB.out J.size)
  obtain ⟨AM, cM, rfl⟩ := Kd.R_slice aW
  clear aW I J fm bf bb bu cJ cb cG cB
  refine kn hK (bh.out.cell 4 _ rfl) (fun hHeld => ?_)
  clear hK K
  refine pu 10 ab.out ?_
  refine pr (i := 11) (N := none) #[true, true, true, true, true, true, true, true, true, true, true, true] rfl rfl (lL ab.out (by kernel_rfl)) (by decide) (fun K hK => ?_)
  have Bb := bh.out.frozen 4; have mA := bh.out.cell 4 _ rfl
  refine oA (w1 := ?_) (by rfl) rfl ?_ ?_
  rotate_left
  ·go_simp
   rfl
  refine hK.out _ _ ?_
  clear hK K
  refine dn ab.out ?_
  clear Bb mA hHeld
  generalize bR : V1.setCell ⟨gX, 4, none⟩ (.slice AM M1.length cM) = W7; have J : V1.grownBy W7 (some gX) := (by rw [← bR]; exact bO _ _ _ _); have dU := gb bG bQ J; have dj := ak (bh.out.set 4 (.slice AM M1.length cM)); have dz := gm bS aG J; have fN := gr cY bh J; have eZ := gr cQ bh J; have jF := gr dD bh J; have iN := ak (Nat.le_trans cX.out J.size); rw [bR] at dj; clear bR J bG bh bS cY cQ dD cX
  have tB := cn
  have jX := dj.out.cell 2 _ rfl
  go_wp2_with fail
  clear jX
  go_loopw [5, 6, 23] (fun _ _ u W => ∃ j : Nat, j ≤ 64 ∧ u = .int .i64 j ∧ Aside0 (aH W gX (da b.addr b.aff (.slice (some ⟨gs, 0, none⟩) b.slots.length cs) (.slice Af b.free.length cf) (.slice AM M1.length cM)) 62) ∧ Aside0 (aH W gZ dG 62) ∧ Aside0 (Kd.R (Kd.int .i64) 3 W b1 (fun k => some k ≠ (Value.slice Af b.free.length cf).ownBlock) (.slice (some ⟨gs, 0, none⟩) b.slots.length cs) (my k b.slots j)) ∧ Aside0 (Kd.R (Kd.int .i64) 3 W b1 (fun k => some k ≠ (Value.slice (some ⟨gs, 0, none⟩) b.slots.length cs).ownBlock) (.slice Af b.free.length cf) b.free) ∧ Aside0 (Kd.R g8 76 W b1 (fun _ => True) (.slice AM M1.length cM) M1) ∧ Aside0 (Below w.heap.size w W)) (fun _ _ u _ => 64 - (intOf u).toNat)
  case atStart => exact ⟨0, by omega, rfl, dj, dz, fN, eZ, jF, dU⟩
  case round =>
   clear dU dj dz fN eZ jF iN
   obtain ⟨j, hj, rfl, aJ, br, aX, bw, bD, ae⟩ := hrel
   obtain ⟨W, rfl⟩ : ∃ W : World, W = wr := ⟨_, rfl⟩
   by_cases hjn : j < 64
   ·have hkb : decide ((j : Int) < (b.slots.length : Int)) = true := by rw [HL.out]; simp; omega
    have hjl : j < b.slots.length := by rw [HL.out]; exact hjn
    have hcl := ln aX.out j hjl
    rw [AE k b.slots j hjl] at hcl
    have hms := OD.out _ (List.getElem_mem hjl)
    have hst := AD k b.slots j hjl
    have hsm := y6 k b.slots j hjl
    obtain ⟨m, hm⟩ : ∃ m : Nat, b.slots[j] = (m : Int) := ⟨(b.slots[j]).toNat, by omega⟩
    rw [hm] at hcl hms hst hsm
    have lF := hcl.1
    have pj : ((j : Int) < (b.slots.length : Int)) = True := eq_true (by omega)
    have jX := aJ.out.cell 2 _ rfl
    have sS := hms.2
    by_cases hgt : (m : Int) > (k : Int) + 1
    ·have te := hcl.2
     have HST := ak (show (my k b.slots j).set j ((m : Int) - 1) = my k b.slots (j + 1) by rw [← hst]; congr 1; unfold kR; rw [if_pos hgt])
     have HJL := ak hjl
     clear hcl hst hsm hms hm
     go_wp2_with fail
     generalize bR : W.setCell ⟨gs, j, none⟩ (.int .i64 ((m : Int) - 1)) = W1; have J : W.grownBy W1 (some gs) := (by rw [← bR]; exact (mQ aX.out j HJL.out ((m : Int) - 1)).2); have ah := ak (aJ.out.grown J (aJ.out.ne_row aX.out (by decide))); have bM := ak (br.out.grown J (br.out.ne_row aX.out (by decide))); have bd := ak ((mQ aX.out j HJL.out ((m : Int) - 1)).1); have bp := ak (Kd.R_grown bw.out J (fun k_ cD => cD)); have bH := ak (Kd.R_over bD.out aX.out (by decide) J); have ai := ak (ae.out.grown J ae.out.size (by intro k hk; cases hk; exact Nat.le_trans tB.out (Kd.R_base aX.out gs rfl))); rw [bR] at bd; clear bR J aJ br aX bw bD ae lF te jX
     rw [HST.out] at bd
     go_roundw
     case rel => exact ⟨j + 1, by omega, by go_num, ah, bM, bd, bp, bH, ai⟩
     case measure => simp [intOf]; omega
    ·have HST := ak (hsm (by unfold kR; rw [if_neg hgt]))
     clear hcl hst hsm hms hm
     go_wp2_with fail
     go_roundw
     case rel => exact ⟨j + 1, by omega, by go_num, aJ, br, ⟨by rw [HST.out]; exact aX.out⟩, bw, bD, ae⟩
     case measure => simp [intOf]; omega
   ·obtain rfl : j = 64 := by omega
    rw [show ((64 : Nat) : Int) = (64 : Int) from rfl]
    have hkb : decide ((64 : Int) < (b.slots.length : Int)) = false := by rw [HL.out]; decide
    have hall := AG k b.slots
    rw [HL.out] at hall
    rw [hall] at aX
    have HSN := ak (show b.slots.length = (b.slots.map (kR k)).length by rw [List.length_map])
    clear hall
    go_wp2_with (first
     | ((with_reducible refine ax (N := 39) rfl ?_); go_loud (refine az rfl 62 (.tmp 2) rfl gX rfl _ _ _ aJ.out Try.underlying62 rfl 5 (by kernel_rfl) rfl ?_))
     | (go_loud (refine aN rfl 62 (.tmp 4) (.tmp 39) rfl gZ (da b.addr b.aff (.slice (some ⟨gs, 0, none⟩) b.slots.length cs) (.slice Af b.free.length cf) (.slice AM M1.length cM)) rfl rfl 62 _ br.out 5 (by kernel_rfl) rfl rfl (dJ _ _ rfl rfl rfl) ?_; intro W1 aa J; have ah := gn aJ aG J; have bM := ak (aa); have bd := gr aX br J; have bp := gr bw br J; have bH := gr bD br J; have ai := gb ae bN J; clear aa J aJ br aX bw bD ae)))
    refine bodyPost_ret (results_cell_row rfl _ _ gZ 62 _ (0, 0) _ rfl bM.out Try.underlying62 rfl (by kernel_rfl)) rfl ⟨_, rfl, ⟨_, _, _, rfl, ?_, ?_, ?_⟩, ai.out⟩
    ·exact Kd.R_lower (Kd.R_mono bd.out (fun _ _ => trivial)) cn.out
    ·exact Kd.R_lower (Kd.R_mono bp.out (fun _ _ => trivial)) cn.out
    ·show Kd.R _ _ _ _ _ _ ((b.attrs.take k ++ b.attrs.drop (k + 1)).map vc)
     rw [← zs.out]
     exact Kd.R_lower bH.out cn.out
end Go.Proofs.Ytemhalnhbgkbcaa.V
end

section
namespace Go.Proofs.Ytemhalnhbgkbcaa.V
attribute [local go_sem] ez ew fa e9 ec eb ey ev
def fz.f (bq : Int) (bz : ByteArray) (bJ : List Int) (cI : List Int) (bI : List (S76)) (a1 : Int) : Option (Bool) := some (((a1 - (Int.tmod a1 64)) % 4294967296) == bq)
set_option maxHeartbeats 8000000 in
set_option maxRecDepth 100000 in
theorem fz.calls (bq : Int) (bz : ByteArray) (fo : Option Addr) (fg : Nat) (bJ : List Int) (eP : Option Addr) (eN : Nat) (cI : List Int) (eE : Option Addr) (er : Nat) (bI : List (S76)) (a1 : Int) (r : Bool) (w : World) (qV : Kd.C (Kd.int .i64) w fo bJ.length bJ) (q9 : bJ.length ≤ fg) (qU : Kd.C (Kd.int .i64) w eP cI.length cI) (q8 : cI.length ≤ eN) (qT : Kd.C g8 w eE bI.length bI) (qZ : bI.length ≤ er) (h : fz.f bq bz bJ cI bI a1 = some r) :
  Calls Try.prog 100 #[.agg #[.int .u32 bq, .string bz, .slice fo bJ.length fg, .slice eP cI.length eN, .slice eE bI.length er], .int .u32 a1] w fun e w' => e = .returned (.bool r) ∧ Below w.heap.size w w' := by
 have Gp := Try.underlying62
 have pJ := ak qV
 have yf := ak q9
 clear qV q9
 have vr := ak qU
 have ye := ak q8
 clear qU q8
 have tu := ak qT
 have yd := ak qZ
 clear qT qZ
 have HB := ak (Below.refl w.heap.size w)
 have H : (some (((a1 - (Int.tmod a1 64)) % 4294967296) == bq)) = some r := h
 clear h
 obtain rfl := Option.some.inj H
 go_enter Try.func100, Try.ntmps100
 go_wp2_with (first | ((with_reducible refine ax (N := 2) rfl ?_); refine eX ?hg (N := 2) ?hd (cs := #[.int .u32 bq, .string bz, .slice fo bJ.length fg, .slice eP cI.length eN, .slice eE bI.length er]) (t := 62) ?hr ?_; (case hd => rfl); (case hg => rfl); (case hr => first | (go_simp; done) | (go_simp; rfl)); intro mX hg w3 hbox hb; have cA := ak (bE (by repeat (first | (with_reducible first | exact HB.out | apply al | apply af | apply aq) | exact HB.out)) hb); have cP := ak (hbox); have dh := ak ((by rw [hg]; exact (bs (by repeat (first | (with_reducible first | exact HB.out | apply al | apply af | apply aq) | exact HB.out))) : w.heap.size ≤ mX)); have dN := ak ((by rw [hg]; exact (bs (by repeat (first | (with_reducible first | exact HB.out | apply al | apply af | apply aq) | exact HB.out))) : w.heap.size ≤ mX)); clear HB; have HB := cA; have ky := cP; have PC := dh; have G3 := dN; clear cA cP dh dN; clear hb hbox hg; have Sr : w3.cell? ⟨mX, 0, none⟩ = some (.int .u32 bq) := (aC ky.out 0).trans rfl; have Sq : w3.cell? ⟨mX, 1, none⟩ = some (.string bz) := (aC ky.out 1).trans rfl; have Sp : w3.cell? ⟨mX, 2, none⟩ = some (.slice fo bJ.length fg) := (aC ky.out 2).trans rfl; have So : w3.cell? ⟨mX, 3, none⟩ = some (.slice eP cI.length eN) := (aC ky.out 3).trans rfl; have Sn : w3.cell? ⟨mX, 4, none⟩ = some (.slice eE bI.length er) := (aC ky.out 4).trans rfl; have Sd := ao ky.out 0; have Sc := ao ky.out 1; have Sb := ao ky.out 2; have Sa := ao ky.out 3; have R9 := ao ky.out 4))
 go_ret
 exact ⟨by first | rfl | (simp [cw, ct] <;> rfl) | (simp [*, cw, ct] <;> rfl), by repeat (first | (with_reducible first | exact HB.out | apply al | apply af | apply aq | refine aQ ?_ G3.out) | exact HB.out)⟩
end Go.Proofs.Ytemhalnhbgkbcaa.V
end

section
namespace Go.Proofs.Ytemhalnhbgkbcaa.V
attribute [local go_sem] ez ew fa e9 ec eb ey ev
def eg.f (bq : Int) (bz : ByteArray) (bJ : List Int) (cI : List Int) (bI : List (S76)) (a1 : Int) : Option (ByteArray × ByteArray × Bool) := (fz.f bq bz bJ cI bI a1).bind fun sw => (if sw = true then (if 0 ≤ (Int.tmod a1 64) then (if (Int.tmod a1 64) < (bJ.length : Int) then (if (rd bJ (Int.tmod a1 64)) = 0 then (some ((⟨#[]⟩ : ByteArray), (⟨#[]⟩ : ByteArray), false)) else (if 0 ≤ (wrap64 ((rd bJ (Int.tmod a1 64)) - 1)) then (if (wrap64 ((rd bJ (Int.tmod a1 64)) - 1)) < (bI.length : Int) then (some ((fv bI (wrap64 ((rd bJ (Int.tmod a1 64)) - 1))).f0, (fv bI (wrap64 ((rd bJ (Int.tmod a1 64)) - 1))).f1, true)) else (none)) else (none))) else (none)) else (none)) else (some ((⟨#[]⟩ : ByteArray), (⟨#[]⟩ : ByteArray), false)))
def eg.T3 : Bool × List (List Nat × List Nat) := (true, [([], []), ([0], [0]), ([], []), ([2], [2]), ([], []), ([4], [4]), ([3, 5], [3, 5]), ([6], [6]), ([7], [7]), ([1, 8], [1, 8]), ([9], [9]), ([10, 0, 1, 2, 3, 4, 5, 6, 7, 8, 9, 10], [10]), ([11, 0, 1, 2, 3, 4, 5, 6, 7, 8, 9, 10, 11], [])])
def eg.B3 : List Nat := [0, 1, 0, 4, 0, 16, 60, 124, 252, 511, 1023, 2047, 4095]
theorem eg.tab3 : dC .any (opsOf Try.f62 3) = eg.T3 := by kernel_rfl
theorem eg.bits3 : cU eg.T3.2 eg.B3 = true := by kernel_rfl
set_option maxHeartbeats 8000000 in
set_option maxRecDepth 100000 in
theorem eg.calls (bq : Int) (bz : ByteArray) (fo : Option Addr) (fg : Nat) (bJ : List Int) (eP : Option Addr) (eN : Nat) (cI : List Int) (eE : Option Addr) (er : Nat) (bI : List (S76)) (a1 : Int) (r1 : ByteArray) (r2 : ByteArray) (r3 : Bool) (w : World) (qV : Kd.C (Kd.int .i64) w fo bJ.length bJ) (q9 : bJ.length ≤ fg) (qU : Kd.C (Kd.int .i64) w eP cI.length cI) (q8 : cI.length ≤ eN) (qT : Kd.C g8 w eE bI.length bI) (qZ : bI.length ≤ er) (h : eg.f bq bz bJ cI bI a1 = some (r1, r2, r3)) :
  Calls Try.prog 62 #[.agg #[.int .u32 bq, .string bz, .slice fo bJ.length fg, .slice eP cI.length eN, .slice eE bI.length er], .int .u32 a1] w fun e w' => e = .returned (.tuple #[.agg #[.string r1, .string r2], .bool r3]) ∧ Below w.heap.size w w' := by
 have Gp := Try.underlying62
 have Lp := Try.underlying76
 have pJ := ak qV
 have yf := ak q9
 clear qV q9
 have vr := ak qU
 have ye := ak q8
 clear qU q8
 have tu := ak qT
 have yd := ak qZ
 clear qT qZ
 have HB := ak (Below.refl w.heap.size w)
 have H : ((fz.f bq bz bJ cI bI a1).bind fun sw => (if sw = true then (if 0 ≤ (Int.tmod a1 64) then (if (Int.tmod a1 64) < (bJ.length : Int) then (if (rd bJ (Int.tmod a1 64)) = 0 then (some ((⟨#[]⟩ : ByteArray), (⟨#[]⟩ : ByteArray), false)) else (if 0 ≤ (wrap64 ((rd bJ (Int.tmod a1 64)) - 1)) then (if (wrap64 ((rd bJ (Int.tmod a1 64)) - 1)) < (bI.length : Int) then (some ((fv bI (wrap64 ((rd bJ (Int.tmod a1 64)) - 1))).f0, (fv bI (wrap64 ((rd bJ (Int.tmod a1 64)) - 1))).f1, true)) else (none)) else (none))) else (none)) else (none)) else (some ((⟨#[]⟩ : ByteArray), (⟨#[]⟩ : ByteArray), false)))) = some (r1, r2, r3) := h
 clear h
 replace H := Option.bind_eq_some_iff.mp H
 obtain ⟨sw, r9, H⟩ := H
 replace H : (if sw = true then (if 0 ≤ (Int.tmod a1 64) then (if (Int.tmod a1 64) < (bJ.length : Int) then (if (rd bJ (Int.tmod a1 64)) = 0 then (some ((⟨#[]⟩ : ByteArray), (⟨#[]⟩ : ByteArray), false)) else (if 0 ≤ (wrap64 ((rd bJ (Int.tmod a1 64)) - 1)) then (if (wrap64 ((rd bJ (Int.tmod a1 64)) - 1)) < (bI.length : Int) then (some ((fv bI (wrap64 ((rd bJ (Int.tmod a1 64)) - 1))).f0, (fv bI (wrap64 ((rd bJ (Int.tmod a1 64)) - 1))).f1, true)) else (none)) else (none))) else (none)) else (none)) else (some ((⟨#[]⟩ : ByteArray), (⟨#[]⟩ : ByteArray), false))) = some (r1, r2, r3) := H
 have A3 := ak r9
 clear r9
 by_cases c4 : sw = true
 ·subst c4
  have H1 : (if 0 ≤ (Int.tmod a1 64) then (if (Int.tmod a1 64) < (bJ.length : Int) then (if (rd bJ (Int.tmod a1 64)) = 0 then (some ((⟨#[]⟩ : ByteArray), (⟨#[]⟩ : ByteArray), false)) else (if 0 ≤ (wrap64 ((rd bJ (Int.tmod a1 64)) - 1)) then (if (wrap64 ((rd bJ (Int.tmod a1 64)) - 1)) < (bI.length : Int) then (some ((fv bI (wrap64 ((rd bJ (Int.tmod a1 64)) - 1))).f0, (fv bI (wrap64 ((rd bJ (Int.tmod a1 64)) - 1))).f1, true)) else (none)) else (none))) else (none)) else (none)) = some (r1, r2, r3) := by rw [if_pos rfl] at H; exact H
  clear H
  have H := H1
  clear H1
  obtain ⟨kr, AX⟩ : ∃ j_ : Int, (Int.tmod a1 64) = j_ := ⟨_, rfl⟩
  replace H : (if 0 ≤ (kr) then (if (kr) < (bJ.length : Int) then (if (rd bJ (kr)) = 0 then (some ((⟨#[]⟩ : ByteArray), (⟨#[]⟩ : ByteArray), false)) else (if 0 ≤ (wrap64 ((rd bJ (kr)) - 1)) then (if (wrap64 ((rd bJ (kr)) - 1)) < (bI.length : Int) then (some ((fv bI (wrap64 ((rd bJ (kr)) - 1))).f0, (fv bI (wrap64 ((rd bJ (kr)) - 1))).f1, true)) else (none)) else (none))) else (none)) else (none)) = some (r1, r2, r3) := by first | (rw [AX] at H; exact H) | (simp only [AX] at H ⊢; exact H)
  (try rw [AX] at A3)
  by_cases c6 : 0 ≤ (kr)
  ·rw [if_pos c6] at H
   have nA : decide (0 ≤ (kr)) = true := decide_eq_true c6
   clear c6
   by_cases c7 : (kr) < (bJ.length : Int)
   ·rw [if_pos c7] at H
    have qv : decide ((kr) < (bJ.length : Int)) = true := decide_eq_true c7
    clear c7
    by_cases c8 : (rd bJ (kr)) = 0
    ·rw [if_pos c8] at H
     have qu : ((rd bJ (kr)) == 0) = true := beq_iff_eq.mpr c8
     have BA : ((rd bJ (kr)) != 0) = false := bne_eq_false_iff_eq.mpr c8
     clear c8
     simp only [Option.some.injEq, Prod.mk.injEq] at H
     obtain ⟨rfl, rfl, rfl⟩ := H
     go_enter Try.func62, Try.ntmps62
     go_wp2_with (first | ((with_reducible refine ax (N := 2) rfl ?_); refine eX ?hg (N := 2) ?hd (cs := #[.int .u32 bq, .string bz, .slice fo bJ.length fg, .slice eP cI.length eN, .slice eE bI.length er]) (t := 62) ?hr ?_; (case hd => rfl); (case hg => rfl); (case hr => first | (go_simp; done) | (go_simp; rfl)); intro bW hg w9 hbox hb; have cA := ak (bE (by repeat (first | (with_reducible first | exact HB.out | apply al | apply af | apply aq) | exact HB.out)) hb); have cP := ak (hbox); have dh := ak ((by rw [hg]; exact (bs (by repeat (first | (with_reducible first | exact HB.out | apply al | apply af | apply aq) | exact HB.out))) : w.heap.size ≤ bW)); have dN := ak ((by rw [hg]; exact (bs (by repeat (first | (with_reducible first | exact HB.out | apply al | apply af | apply aq) | exact HB.out))) : w.heap.size ≤ bW)); clear HB; have HB := cA; have bc := cP; have Du := dh; have ia := dN; clear cA cP dh dN; clear hb hbox hg) | ((with_reducible refine ax (N := 4) rfl ?_); refine eX ?hg (N := 4) ?hd (cs := #[.string (⟨#[]⟩ : ByteArray), .string (⟨#[]⟩ : ByteArray)]) (t := 76) ?hr ?_; (case hd => rfl); (case hg => rfl); (case hr => first | (go_simp; done) | (go_simp; rfl)); intro cV hg yT hbox hb; have cA := ak (eM (g := bW) (o := .cells #[.int .u32 bq, .string bz, .slice fo bJ.length fg, .slice eP cI.length eN, .slice eE bI.length er] 62 (0, 0)) (by (with_reducible repeat (first | refine aK ?_ _ | refine aT ?_ | refine aM ?_ _)); exact bc.out) hb); have cP := ak (bE (by repeat (first | (with_reducible first | exact HB.out | apply al | apply af | apply aq | refine aQ ?_ ia.out) | exact HB.out)) hb); have dh := ak (hbox); have dN := ak ((by rw [hg]; exact (bs (by repeat (first | (with_reducible first | exact HB.out | apply al | apply af | apply aq | refine aQ ?_ ia.out) | exact HB.out))) : w.heap.size ≤ cV)); have jb := ak ((by rw [hg]; exact (bs (by repeat (first | (with_reducible first | exact HB.out | apply al | apply af | apply aq | refine aQ ?_ ia.out) | exact HB.out))) : w.heap.size ≤ cV)); have lM := ak ((by rw [hg]; exact Nat.ne_of_lt (jJ (g := bW) (o := .cells #[.int .u32 bq, .string bz, .slice fo bJ.length fg, .slice eP cI.length eN, .slice eE bI.length er] 62 (0, 0)) (by (with_reducible repeat (first | refine aK ?_ _ | refine aT ?_ | refine aM ?_ _)); exact bc.out)) : bW ≠ cV)); have oU := ak ((by rw [hg]; exact Nat.ne_of_gt (jJ (g := bW) (o := .cells #[.int .u32 bq, .string bz, .slice fo bJ.length fg, .slice eP cI.length eN, .slice eE bI.length er] 62 (0, 0)) (by (with_reducible repeat (first | refine aK ?_ _ | refine aT ?_ | refine aM ?_ _)); exact bc.out)) : cV ≠ bW)); clear bc; clear HB; have bc := cA; have HB := cP; have ek := dh; have eY := dN; have nt := jb; have ed := lM; have jE := oU; clear cA cP dh dN jb lM oU; clear hb hbox hg; have Ts := ed.out; have Tn := jE.out; have Rq : yT.cell? ⟨bW, 0, none⟩ = some (.int .u32 bq) := (aC bc.out 0).trans rfl; have Rp : yT.cell? ⟨bW, 1, none⟩ = some (.string bz) := (aC bc.out 1).trans rfl; have Ro : yT.cell? ⟨bW, 2, none⟩ = some (.slice fo bJ.length fg) := (aC bc.out 2).trans rfl; have Rn : yT.cell? ⟨bW, 3, none⟩ = some (.slice eP cI.length eN) := (aC bc.out 3).trans rfl; have Rm : yT.cell? ⟨bW, 4, none⟩ = some (.slice eE bI.length er) := (aC bc.out 4).trans rfl; have Qu := ao bc.out 0; have Qt := ao bc.out 1; have Qs := ao bc.out 2; have Qr := ao bc.out 3; have Qq := ao bc.out 4) | ((with_reducible refine fJ (f := 100) rfl ?_); refine kF (some 8) rfl rfl Try.func100 (by kernel_rfl) rfl #[.agg #[.int .u32 bq, .string bz, .slice fo bJ.length fg, .slice eP cI.length eN, .slice eE bI.length er], .int .u32 a1] rfl (by (try simp only [List.map_toArray, List.map_cons, List.map_nil]); first | done | rfl | (simp only [List.length_drop, List.length_take]; rfl)) ?_; (with_reducible refine (fz.calls bq bz _ _ bJ _ _ cI _ _ bI a1 true _ ?side1 ?side2 ?side3 ?side4 ?side5 ?side6 A3.out).mono ?_); (case side1 => repeat (first | exact (Kd.C_below pJ.out HB.out) | (with_reducible refine Kd.C_alloc ?_ _) | (with_reducible refine Kd.C_drewN ?_ _) | (with_reducible refine Kd.C_drew ?_))); (case side2 => exact yf.out); (case side3 => repeat (first | exact (Kd.C_below vr.out HB.out) | (with_reducible refine Kd.C_alloc ?_ _) | (with_reducible refine Kd.C_drewN ?_ _) | (with_reducible refine Kd.C_drew ?_))); (case side4 => exact ye.out); (case side5 => repeat (first | exact (Kd.C_below tu.out HB.out) | (with_reducible refine Kd.C_alloc ?_ _) | (with_reducible refine Kd.C_drewN ?_ _) | (with_reducible refine Kd.C_drew ?_))); (case side6 => exact yd.out); rintro e z5 ⟨rfl, hb⟩; refine ⟨_, rfl, ?_⟩; have cA := ak (eM (g := bW) (o := .cells #[.int .u32 bq, .string bz, .slice fo bJ.length fg, .slice eP cI.length eN, .slice eE bI.length er] 62 (0, 0)) (by (with_reducible repeat (first | refine aK ?_ _ | refine aT ?_ | refine aM ?_ _)); exact bc.out) hb); have cP := ak (eM (g := cV) (o := .cells #[.string (⟨#[]⟩ : ByteArray), .string (⟨#[]⟩ : ByteArray)] 76 (0, 0)) (by (with_reducible repeat (first | refine aK ?_ _ | refine aT ?_ | refine aM ?_ _)); exact ek.out) hb); have dh := ak (bE (by repeat (first | (with_reducible first | exact HB.out | apply al | apply af | apply aq | refine aQ ?_ ia.out | refine aQ ?_ nt.out) | exact HB.out)) hb); clear bc; clear ek; clear HB; have bc := cA; have ek := cP; have HB := dh; clear cA cP dh; (try clear hb); (try clear eL); (try clear hk); (try clear hi); have Kn : z5.cell? ⟨bW, 0, none⟩ = some (.int .u32 bq) := (aC bc.out 0).trans rfl; have Km : z5.cell? ⟨bW, 1, none⟩ = some (.string bz) := (aC bc.out 1).trans rfl; have Kl : z5.cell? ⟨bW, 2, none⟩ = some (.slice fo bJ.length fg) := (aC bc.out 2).trans rfl; have Kk : z5.cell? ⟨bW, 3, none⟩ = some (.slice eP cI.length eN) := (aC bc.out 3).trans rfl; have Kj : z5.cell? ⟨bW, 4, none⟩ = some (.slice eE bI.length er) := (aC bc.out 4).trans rfl; have J3 := ao bc.out 0; have J2 := ao bc.out 1; have J1 := ao bc.out 2; have J0 := ao bc.out 3; have JZ := ao bc.out 4; have qg : 0 ≤ ((kr) : Int) := of_decide_eq_true (by first | (with_reducible assumption) | assumption); have p8 : (kr) < (bJ.length : Int) := of_decide_eq_true (by first | (with_reducible assumption) | assumption); obtain ⟨u9, Bu, lO⟩ := Kd.at_int pJ.out (kr) qg p8; cases Bu; replace lO := (HB.out.cell (World.block_lt_of_cell? w _ lO)).trans lO; replace qg := eq_true qg; replace p8 := eq_true p8; have Rg : z5.cell? ⟨cV, 0, none⟩ = some (.string (⟨#[]⟩ : ByteArray)) := (aC ek.out 0).trans rfl; have Rf : z5.cell? ⟨cV, 1, none⟩ = some (.string (⟨#[]⟩ : ByteArray)) := (aC ek.out 1).trans rfl; have Qk := ao ek.out 0; have Qj := ao ek.out 1))
     refine bodyPost_ret (eU rfl _ _ cV 76 #[.string (⟨#[]⟩ : ByteArray), .string (⟨#[]⟩ : ByteArray)] (0, 0) _ rfl (by (with_reducible repeat (first | refine aK ?_ _ | refine aT ?_ | refine aM ?_ _)); refine eO (cs := #[.string (⟨#[]⟩ : ByteArray), .string (⟨#[]⟩ : ByteArray)]) ?_ 1 _ rfl; (with_reducible repeat (first | refine aK ?_ _ | refine aT ?_ | refine aM ?_ _)); refine eO (cs := #[.string (⟨#[]⟩ : ByteArray), .string (⟨#[]⟩ : ByteArray)]) ?_ 0 _ rfl; (with_reducible repeat (first | refine aK ?_ _ | refine aT ?_ | refine aM ?_ _)); exact ek.out) Try.underlying76 rfl (by kernel_rfl)) rfl ?_
     exact ⟨by first | rfl | (simp [cw, ct] <;> rfl) | (simp only [← AX]; first | rfl | (simp [cw, ct] <;> rfl)) | (simp [*, cw, ct] <;> rfl), by repeat (first | (with_reducible first | exact HB.out | apply al | apply af | apply aq | refine aQ ?_ ia.out | refine aQ ?_ nt.out) | exact HB.out)⟩
    ·rw [if_neg c8] at H
     have qu : ((rd bJ (kr)) == 0) = false := beq_eq_false_iff_ne.mpr c8
     have BA : ((rd bJ (kr)) != 0) = true := bne_iff_ne.mpr c8
     obtain ⟨kE, wF⟩ : ∃ j_ : Int, (wrap64 ((rd bJ (kr)) - 1)) = j_ := ⟨_, rfl⟩
     replace H : (if 0 ≤ (kE) then (if (kE) < (bI.length : Int) then (some ((fv bI (kE)).f0, (fv bI (kE)).f1, true)) else (none)) else (none)) = some (r1, r2, r3) := by first | (rw [wF] at H; exact H) | (simp only [wF] at H ⊢; exact H)
     (try rw [wF] at A3)
     have RZ : (IntKind.i64.wrap ((rd bJ (kr)) - 1)) = kE := (l9 _).trans wF
     by_cases uz : 0 ≤ (kE)
     ·rw [if_pos uz] at H
      have Hs : decide (0 ≤ (kE)) = true := decide_eq_true uz
      clear uz
      by_cases uy : (kE) < (bI.length : Int)
      ·rw [if_pos uy] at H
       have Hr : decide ((kE) < (bI.length : Int)) = true := decide_eq_true uy
       clear uy
       simp only [Option.some.injEq, Prod.mk.injEq] at H
       obtain ⟨rfl, rfl, rfl⟩ := H
       go_enter Try.func62, Try.ntmps62
       try go_wp2_with (first | ((with_reducible refine ax (N := 2) rfl ?_); refine eX ?hg (N := 2) ?hd (cs := #[.int .u32 bq, .string bz, .slice fo bJ.length fg, .slice eP cI.length eN, .slice eE bI.length er]) (t := 62) ?hr ?_; (case hd => rfl); (case hg => rfl); (case hr => first | (go_simp; done) | (go_simp; rfl)); intro bW hg Ub hbox hb; have cA := ak (bE (by repeat (first | (with_reducible first | exact HB.out | apply al | apply af | apply aq) | exact HB.out)) hb); have cP := ak (hbox); have dh := ak ((by rw [hg]; exact (bs (by repeat (first | (with_reducible first | exact HB.out | apply al | apply af | apply aq) | exact HB.out))) : w.heap.size ≤ bW)); have dN := ak ((by rw [hg]; exact (bs (by repeat (first | (with_reducible first | exact HB.out | apply al | apply af | apply aq) | exact HB.out))) : w.heap.size ≤ bW)); clear HB; have HB := cA; have bc := cP; have Du := dh; have ia := dN; clear cA cP dh dN; clear hb hbox hg) | ((with_reducible refine ax (N := 4) rfl ?_); refine eX ?hg (N := 4) ?hd (cs := #[.string (⟨#[]⟩ : ByteArray), .string (⟨#[]⟩ : ByteArray)]) (t := 76) ?hr ?_; (case hd => rfl); (case hg => rfl); (case hr => first | (go_simp; done) | (go_simp; rfl)); intro cV hg tR hbox hb; have cA := ak (eM (g := bW) (o := .cells #[.int .u32 bq, .string bz, .slice fo bJ.length fg, .slice eP cI.length eN, .slice eE bI.length er] 62 (0, 0)) (by (with_reducible repeat (first | refine aK ?_ _ | refine aT ?_ | refine aM ?_ _)); exact bc.out) hb); have cP := ak (bE (by repeat (first | (with_reducible first | exact HB.out | apply al | apply af | apply aq | refine aQ ?_ ia.out) | exact HB.out)) hb); have dh := ak (hbox); have dN := ak ((by rw [hg]; exact (bs (by repeat (first | (with_reducible first | exact HB.out | apply al | apply af | apply aq | refine aQ ?_ ia.out) | exact HB.out))) : w.heap.size ≤ cV)); have jb := ak ((by rw [hg]; exact (bs (by repeat (first | (with_reducible first | exact HB.out | apply al | apply af | apply aq | refine aQ ?_ ia.out) | exact HB.out))) : w.heap.size ≤ cV)); have lM := ak ((by rw [hg]; exact Nat.ne_of_lt (jJ (g := bW) (o := .cells #[.int .u32 bq, .string bz, .slice fo bJ.length fg, .slice eP cI.length eN, .slice eE bI.length er] 62 (0, 0)) (by (with_reducible repeat (first | refine aK ?_ _ | refine aT ?_ | refine aM ?_ _)); exact bc.out)) : bW ≠ cV)); have oU := ak ((by rw [hg]; exact Nat.ne_of_gt (jJ (g := bW) (o := .cells #[.int .u32 bq, .string bz, .slice fo bJ.length fg, .slice eP cI.length eN, .slice eE bI.length er] 62 (0, 0)) (by (with_reducible repeat (first | refine aK ?_ _ | refine aT ?_ | refine aM ?_ _)); exact bc.out)) : cV ≠ bW)); clear bc; clear HB; have bc := cA; have HB := cP; have ek := dh; have eY := dN; have nt := jb; have ed := lM; have jE := oU; clear cA cP dh dN jb lM oU; clear hb hbox hg; have Tq := ed.out; have Tl := jE.out; have Kb : tR.cell? ⟨bW, 0, none⟩ = some (.int .u32 bq) := (aC bc.out 0).trans rfl; have Ka : tR.cell? ⟨bW, 1, none⟩ = some (.string bz) := (aC bc.out 1).trans rfl; have J9 : tR.cell? ⟨bW, 2, none⟩ = some (.slice fo bJ.length fg) := (aC bc.out 2).trans rfl; have J8 : tR.cell? ⟨bW, 3, none⟩ = some (.slice eP cI.length eN) := (aC bc.out 3).trans rfl; have J7 : tR.cell? ⟨bW, 4, none⟩ = some (.slice eE bI.length er) := (aC bc.out 4).trans rfl; have JT := ao bc.out 0; have JS := ao bc.out 1; have JR := ao bc.out 2; have JQ := ao bc.out 3; have JP := ao bc.out 4) | ((with_reducible refine fJ (f := 100) rfl ?_); refine kF (some 8) rfl rfl Try.func100 (by kernel_rfl) rfl #[.agg #[.int .u32 bq, .string bz, .slice fo bJ.length fg, .slice eP cI.length eN, .slice eE bI.length er], .int .u32 a1] rfl (by (try simp only [List.map_toArray, List.map_cons, List.map_nil]); first | done | rfl | (simp only [List.length_drop, List.length_take]; rfl)) ?_; (with_reducible refine (fz.calls bq bz _ _ bJ _ _ cI _ _ bI a1 true _ ?side1 ?side2 ?side3 ?side4 ?side5 ?side6 A3.out).mono ?_); (case side1 => repeat (first | exact (Kd.C_below pJ.out HB.out) | (with_reducible refine Kd.C_alloc ?_ _) | (with_reducible refine Kd.C_drewN ?_ _) | (with_reducible refine Kd.C_drew ?_))); (case side2 => exact yf.out); (case side3 => repeat (first | exact (Kd.C_below vr.out HB.out) | (with_reducible refine Kd.C_alloc ?_ _) | (with_reducible refine Kd.C_drewN ?_ _) | (with_reducible refine Kd.C_drew ?_))); (case side4 => exact ye.out); (case side5 => repeat (first | exact (Kd.C_below tu.out HB.out) | (with_reducible refine Kd.C_alloc ?_ _) | (with_reducible refine Kd.C_drewN ?_ _) | (with_reducible refine Kd.C_drew ?_))); (case side6 => exact yd.out); rintro e oO ⟨rfl, hb⟩; refine ⟨_, rfl, ?_⟩; have cA := ak (eM (g := bW) (o := .cells #[.int .u32 bq, .string bz, .slice fo bJ.length fg, .slice eP cI.length eN, .slice eE bI.length er] 62 (0, 0)) (by (with_reducible repeat (first | refine aK ?_ _ | refine aT ?_ | refine aM ?_ _)); exact bc.out) hb); have cP := ak (eM (g := cV) (o := .cells #[.string (⟨#[]⟩ : ByteArray), .string (⟨#[]⟩ : ByteArray)] 76 (0, 0)) (by (with_reducible repeat (first | refine aK ?_ _ | refine aT ?_ | refine aM ?_ _)); exact ek.out) hb); have dh := ak (bE (by repeat (first | (with_reducible first | exact HB.out | apply al | apply af | apply aq | refine aQ ?_ ia.out | refine aQ ?_ nt.out) | exact HB.out)) hb); clear bc; clear ek; clear HB; have bc := cA; have ek := cP; have HB := dh; clear cA cP dh; (try clear hb); (try clear eL); (try clear hk); (try clear hi); have QY : oO.cell? ⟨bW, 0, none⟩ = some (.int .u32 bq) := (aC bc.out 0).trans rfl; have QX : oO.cell? ⟨bW, 1, none⟩ = some (.string bz) := (aC bc.out 1).trans rfl; have QW : oO.cell? ⟨bW, 2, none⟩ = some (.slice fo bJ.length fg) := (aC bc.out 2).trans rfl; have QV : oO.cell? ⟨bW, 3, none⟩ = some (.slice eP cI.length eN) := (aC bc.out 3).trans rfl; have QU : oO.cell? ⟨bW, 4, none⟩ = some (.slice eE bI.length er) := (aC bc.out 4).trans rfl; have P3 := ao bc.out 0; have P2 := ao bc.out 1; have P1 := ao bc.out 2; have P0 := ao bc.out 3; have PZ := ao bc.out 4; have qg : 0 ≤ ((kr) : Int) := of_decide_eq_true (by first | (with_reducible assumption) | assumption); have p8 : (kr) < (bJ.length : Int) := of_decide_eq_true (by first | (with_reducible assumption) | assumption); obtain ⟨u9, Bu, lO⟩ := Kd.at_int pJ.out (kr) qg p8; cases Bu; replace lO := (HB.out.cell (World.block_lt_of_cell? w _ lO)).trans lO; replace qg := eq_true qg; replace p8 := eq_true p8))
       have cA := ak (aT bc.out)
       have cP := ak (aT ek.out)
       have dh := ak (aq HB.out)
       clear bc
       clear ek
       clear HB
       have bc := cA
       have ek := cP
       have HB := dh
       clear cA cP dh
       have Ay : 0 ≤ ((kr) : Int) := of_decide_eq_true (by first | (with_reducible assumption) | assumption)
       have Av : (kr) < (bJ.length : Int) := of_decide_eq_true (by first | (with_reducible assumption) | assumption)
       obtain ⟨KI, LO, oX⟩ := Kd.at_int pJ.out (kr) Ay Av
       have jT := oX
       obtain rfl : u9 = KI := (by injection LO)
       replace oX := (HB.out.cell (World.block_lt_of_cell? w _ oX)).trans oX
       replace Ay := eq_true Ay
       replace Av := eq_true Av
       have Ax : 0 ≤ ((kE) : Int) := of_decide_eq_true (by first | (with_reducible assumption) | assumption)
       have Ar : (kE) < (bI.length : Int) := of_decide_eq_true (by first | (with_reducible assumption) | assumption)
       obtain ⟨uZ, LN, oW, oV⟩ := B5 tu.out (kE) Ax Ar
       have jR := oV
       have jS := oW
       cases LN
       replace oW := (HB.out.cell (World.block_lt_of_cell? w _ oW)).trans oW
       replace oV := (HB.out.cell (World.block_lt_of_cell? w _ oV)).trans oV
       replace Ax := eq_true Ax
       replace Ar := eq_true Ar
       refine cW (n := 13) (S := fun w' => w'.cell? ⟨bW, 0, none⟩ = some (.int .u32 bq) ∧ w'.cell? ⟨bW, 1, none⟩ = some (.string bz) ∧ w'.cell? ⟨bW, 2, none⟩ = some (.slice (some u9) bJ.length fg) ∧ w'.cell? ⟨bW, 3, none⟩ = some (.slice eP cI.length eN) ∧ w'.cell? ⟨bW, 4, none⟩ = some (.slice (some uZ) bI.length er) ∧ w'.cell? (u9.add ((kr)).toNat) = some (.int .i64 (rd bJ (kr))) ∧ w'.cell? (uZ.add (((kE)).toNat * 2)) = some (.string ((fv bI (kE)).f0)) ∧ w'.cell? ⟨(uZ.add (((kE)).toNat * 2)).block, (uZ.add (((kE)).toNat * 2)).off + 1, none⟩ = some (.string ((fv bI (kE)).f1))) (ds := []) #[false, false, false, false, false, false, false, false, false, false, false, false, false] (by kernel_rfl) rfl rfl ⟨(aC bc.out 0).trans rfl, (aC bc.out 1).trans rfl, (aC bc.out 2).trans rfl, (aC bc.out 3).trans rfl, (aC bc.out 4).trans rfl, ((HB.out.cell (World.block_lt_of_cell? w _ jT)).trans jT), ((HB.out.cell (World.block_lt_of_cell? w _ jS)).trans jS), ((HB.out.cell (World.block_lt_of_cell? w _ jR)).trans jR)⟩ (fun hHeld => ?_); refine bK eg.tab3 eg.bits3 (fun ab bj => ?_)
       generalize oO.drew = N8 at bc ek HB oX oW oV hHeld ⊢
       refine pu 0 ab.out ?_
       refine pu 2 ab.out ?_
       refine pu 4 ab.out ?_
       refine pu 5 ab.out ?_
       refine take_ (i := 1) (N := some 21) (v := ?_) (a' := ?_) #[true, true, true, false, true, true, false, false, false, false, false, false, false] rfl rfl (pU ab.out bj.out (by kernel_rfl)) (fun _ _ _ h => h) (Or.inl ⟨by rfl, ?_⟩) hHeld ?_ ?_
       rotate_left
       ·rintro w' ⟨s0, s1, s2, s3, s4, s5, s6, s7⟩
        go_simp
        with_reducible rfl
       rotate_left
       ·simp only [Act.put, List.setIfInBounds_toArray, List.set_cons_zero, List.set_cons_succ, l9, mS]
        rfl
       refine take_ (i := 3) (N := some 23) (v := ?_) (a' := ?_) #[true, true, true, true, true, true, false, false, false, false, false, false, false] rfl rfl (pU ab.out bj.out (by kernel_rfl)) (fun _ _ _ h => h) (Or.inl ⟨by rfl, ?_⟩) hHeld ?_ ?_
       rotate_left
       ·rintro w' ⟨s0, s1, s2, s3, s4, s5, s6, s7⟩
        go_simp
        with_reducible rfl
       rotate_left
       ·simp only [Act.put, List.setIfInBounds_toArray, List.set_cons_zero, List.set_cons_succ, l9, mS]
        rfl
       refine pu 6 ab.out ?_
       refine take_ (i := 7) (N := some 27) (v := ?_) (a' := ?_) #[true, true, true, true, true, true, true, true, false, false, false, false, false] rfl rfl (pU ab.out bj.out (by kernel_rfl)) (fun _ _ _ h => h) (Or.inl ⟨by rfl, ?_⟩) hHeld ?_ ?_
       rotate_left
       ·rintro w' ⟨s0, s1, s2, s3, s4, s5, s6, s7⟩
        go_simp
        with_reducible rfl
       rotate_left
       ·simp only [Act.put, List.setIfInBounds_toArray, List.set_cons_zero, List.set_cons_succ, l9, mS]
        rfl
       refine pu 8 ab.out ?_
       refine pu 9 ab.out ?_
       refine take_ (i := 10) (N := some 30) (v := ?_) (a' := ?_) #[true, true, true, true, true, true, true, true, true, true, true, false, false] rfl rfl (pU ab.out bj.out (by kernel_rfl)) (fun _ _ _ h => h) (Or.inl ⟨by rfl, ?_⟩) hHeld ?_ ?_
       rotate_left
       ·rintro w' ⟨s0, s1, s2, s3, s4, s5, s6, s7⟩
        go_simp
        with_reducible rfl
       rotate_left
       ·simp only [Act.put, List.setIfInBounds_toArray, List.set_cons_zero, List.set_cons_succ, l9, mS]
        rfl
       refine ow 11 ab.out (fun K hK => ?_)
       have TK : N8.cell? ⟨cV, 0, none⟩ = some (.string (⟨#[]⟩ : ByteArray)) := (aC ek.out 0).trans rfl
       have TC := ao ek.out 0
       have PE := ed.out
       have PG := jE.out
       have TJ : N8.cell? ⟨cV, 1, none⟩ = some (.string (⟨#[]⟩ : ByteArray)) := (aC ek.out 1).trans rfl
       have TB := ao ek.out 1
       have PD := ed.out
       have PF := jE.out
       refine oA (w1 := ?_) (by rfl) rfl ?_ ?_
       rotate_left
       ·go_simp
        rfl
       refine hK.out _ _ ⟨((cell_far (p := ⟨cV, _, none⟩) ed.out _).trans (((cell_far (p := ⟨cV, _, none⟩) ed.out _).trans (hHeld.1)))), ((cell_far (p := ⟨cV, _, none⟩) ed.out _).trans (((cell_far (p := ⟨cV, _, none⟩) ed.out _).trans (hHeld.2.1)))), ((cell_far (p := ⟨cV, _, none⟩) ed.out _).trans (((cell_far (p := ⟨cV, _, none⟩) ed.out _).trans (hHeld.2.2.1)))), ((cell_far (p := ⟨cV, _, none⟩) ed.out _).trans (((cell_far (p := ⟨cV, _, none⟩) ed.out _).trans (hHeld.2.2.2.1)))), ((cell_far (p := ⟨cV, _, none⟩) ed.out _).trans (((cell_far (p := ⟨cV, _, none⟩) ed.out _).trans (hHeld.2.2.2.2.1)))), ((cell_far (p := ⟨cV, _, none⟩) (by first | exact Nat.ne_of_lt (Nat.lt_of_lt_of_le (by have := World.block_lt_of_cell? _ _ jT; first | rwa [b5] at this | exact this) eY.out) | (rw [b5]; exact Nat.ne_of_lt (Nat.lt_of_lt_of_le (by have := World.block_lt_of_cell? _ _ jT; first | rwa [b5] at this | exact this) eY.out)) | (show (Addr.add _ _).block ≠ _; rw [b5]; exact Nat.ne_of_lt (Nat.lt_of_lt_of_le (by have := World.block_lt_of_cell? _ _ jT; first | rwa [b5] at this | exact this) eY.out)) | (dsimp only; exact Nat.ne_of_lt (Nat.lt_of_lt_of_le (by have := World.block_lt_of_cell? _ _ jT; first | rwa [b5] at this | exact this) eY.out))) _).trans (((cell_far (p := ⟨cV, _, none⟩) (by first | exact Nat.ne_of_lt (Nat.lt_of_lt_of_le (by have := World.block_lt_of_cell? _ _ jT; first | rwa [b5] at this | exact this) eY.out) | (rw [b5]; exact Nat.ne_of_lt (Nat.lt_of_lt_of_le (by have := World.block_lt_of_cell? _ _ jT; first | rwa [b5] at this | exact this) eY.out)) | (show (Addr.add _ _).block ≠ _; rw [b5]; exact Nat.ne_of_lt (Nat.lt_of_lt_of_le (by have := World.block_lt_of_cell? _ _ jT; first | rwa [b5] at this | exact this) eY.out)) | (dsimp only; exact Nat.ne_of_lt (Nat.lt_of_lt_of_le (by have := World.block_lt_of_cell? _ _ jT; first | rwa [b5] at this | exact this) eY.out))) _).trans (hHeld.2.2.2.2.2.1)))), ((cell_far (p := ⟨cV, _, none⟩) (by first | exact Nat.ne_of_lt (Nat.lt_of_lt_of_le (by have := World.block_lt_of_cell? _ _ jS; first | rwa [b5] at this | exact this) eY.out) | (rw [b5]; exact Nat.ne_of_lt (Nat.lt_of_lt_of_le (by have := World.block_lt_of_cell? _ _ jS; first | rwa [b5] at this | exact this) eY.out)) | (show (Addr.add _ _).block ≠ _; rw [b5]; exact Nat.ne_of_lt (Nat.lt_of_lt_of_le (by have := World.block_lt_of_cell? _ _ jS; first | rwa [b5] at this | exact this) eY.out)) | (dsimp only; exact Nat.ne_of_lt (Nat.lt_of_lt_of_le (by have := World.block_lt_of_cell? _ _ jS; first | rwa [b5] at this | exact this) eY.out))) _).trans (((cell_far (p := ⟨cV, _, none⟩) (by first | exact Nat.ne_of_lt (Nat.lt_of_lt_of_le (by have := World.block_lt_of_cell? _ _ jS; first | rwa [b5] at this | exact this) eY.out) | (rw [b5]; exact Nat.ne_of_lt (Nat.lt_of_lt_of_le (by have := World.block_lt_of_cell? _ _ jS; first | rwa [b5] at this | exact this) eY.out)) | (show (Addr.add _ _).block ≠ _; rw [b5]; exact Nat.ne_of_lt (Nat.lt_of_lt_of_le (by have := World.block_lt_of_cell? _ _ jS; first | rwa [b5] at this | exact this) eY.out)) | (dsimp only; exact Nat.ne_of_lt (Nat.lt_of_lt_of_le (by have := World.block_lt_of_cell? _ _ jS; first | rwa [b5] at this | exact this) eY.out))) _).trans (hHeld.2.2.2.2.2.2.1)))), ((cell_far (p := ⟨cV, _, none⟩) (by first | exact Nat.ne_of_lt (Nat.lt_of_lt_of_le (by have := World.block_lt_of_cell? _ _ jR; first | rwa [b5] at this | exact this) eY.out) | (rw [b5]; exact Nat.ne_of_lt (Nat.lt_of_lt_of_le (by have := World.block_lt_of_cell? _ _ jR; first | rwa [b5] at this | exact this) eY.out)) | (show (Addr.add _ _).block ≠ _; rw [b5]; exact Nat.ne_of_lt (Nat.lt_of_lt_of_le (by have := World.block_lt_of_cell? _ _ jR; first | rwa [b5] at this | exact this) eY.out)) | (dsimp only; exact Nat.ne_of_lt (Nat.lt_of_lt_of_le (by have := World.block_lt_of_cell? _ _ jR; first | rwa [b5] at this | exact this) eY.out))) _).trans (((cell_far (p := ⟨cV, _, none⟩) (by first | exact Nat.ne_of_lt (Nat.lt_of_lt_of_le (by have := World.block_lt_of_cell? _ _ jR; first | rwa [b5] at this | exact this) eY.out) | (rw [b5]; exact Nat.ne_of_lt (Nat.lt_of_lt_of_le (by have := World.block_lt_of_cell? _ _ jR; first | rwa [b5] at this | exact this) eY.out)) | (show (Addr.add _ _).block ≠ _; rw [b5]; exact Nat.ne_of_lt (Nat.lt_of_lt_of_le (by have := World.block_lt_of_cell? _ _ jR; first | rwa [b5] at this | exact this) eY.out)) | (dsimp only; exact Nat.ne_of_lt (Nat.lt_of_lt_of_le (by have := World.block_lt_of_cell? _ _ jR; first | rwa [b5] at this | exact this) eY.out))) _).trans (hHeld.2.2.2.2.2.2.2))))⟩ (fun hHeld => ?_)
       clear hK K
       refine pu 12 ab.out ?_
       refine dn ab.out ?_
       try go_wp2
       refine bodyPost_ret (eU rfl _ _ cV 76 #[.string ((fv bI (kE)).f0), .string ((fv bI (kE)).f1)] (0, 0) _ rfl (by (with_reducible repeat (first | refine aK ?_ _ | refine aT ?_ | refine aM ?_ _)); refine eO (cs := #[.string ((fv bI (kE)).f0), .string (⟨#[]⟩ : ByteArray)]) ?_ 1 _ rfl; (with_reducible repeat (first | refine aK ?_ _ | refine aT ?_ | refine aM ?_ _)); refine eO (cs := #[.string (⟨#[]⟩ : ByteArray), .string (⟨#[]⟩ : ByteArray)]) ?_ 0 _ rfl; (with_reducible repeat (first | refine aK ?_ _ | refine aT ?_ | refine aM ?_ _)); exact ek.out) Try.underlying76 rfl (by kernel_rfl)) rfl ?_
       exact ⟨by first | rfl | (simp [cw, ct] <;> rfl) | (simp only [← AX, ← wF]; first | rfl | (simp [cw, ct] <;> rfl)) | (simp [*, cw, ct] <;> rfl), by repeat (first | (with_reducible first | exact HB.out | apply al | apply af | apply aq | refine aQ ?_ ia.out | refine aQ ?_ nt.out) | exact HB.out)⟩
      ·rw [if_neg uy] at H
       exact absurd H (by simp)
     ·rw [if_neg uz] at H
      exact absurd H (by simp)
   ·rw [if_neg c7] at H
    exact absurd H (by simp)
  ·rw [if_neg c6] at H
   exact absurd H (by simp)
 ·replace c4 := Bool.eq_false_iff.mpr c4
  subst c4
  have H1 : (some ((⟨#[]⟩ : ByteArray), (⟨#[]⟩ : ByteArray), false)) = some (r1, r2, r3) := by rw [if_neg (show ¬ (false = true) by decide)] at H; exact H
  clear H
  have H := H1
  clear H1
  simp only [Option.some.injEq, Prod.mk.injEq] at H
  obtain ⟨rfl, rfl, rfl⟩ := H
  go_enter Try.func62, Try.ntmps62
  go_wp2_with (first | ((with_reducible refine ax (N := 2) rfl ?_); refine eX ?hg (N := 2) ?hd (cs := #[.int .u32 bq, .string bz, .slice fo bJ.length fg, .slice eP cI.length eN, .slice eE bI.length er]) (t := 62) ?hr ?_; (case hd => rfl); (case hg => rfl); (case hr => first | (go_simp; done) | (go_simp; rfl)); intro bW hg Ua hbox hb; have cA := ak (bE (by repeat (first | (with_reducible first | exact HB.out | apply al | apply af | apply aq) | exact HB.out)) hb); have cP := ak (hbox); have dh := ak ((by rw [hg]; exact (bs (by repeat (first | (with_reducible first | exact HB.out | apply al | apply af | apply aq) | exact HB.out))) : w.heap.size ≤ bW)); have dN := ak ((by rw [hg]; exact (bs (by repeat (first | (with_reducible first | exact HB.out | apply al | apply af | apply aq) | exact HB.out))) : w.heap.size ≤ bW)); clear HB; have HB := cA; have bc := cP; have Du := dh; have ia := dN; clear cA cP dh dN; clear hb hbox hg) | ((with_reducible refine ax (N := 4) rfl ?_); refine eX ?hg (N := 4) ?hd (cs := #[.string (⟨#[]⟩ : ByteArray), .string (⟨#[]⟩ : ByteArray)]) (t := 76) ?hr ?_; (case hd => rfl); (case hg => rfl); (case hr => first | (go_simp; done) | (go_simp; rfl)); intro cV hg Ei hbox hb; have cA := ak (eM (g := bW) (o := .cells #[.int .u32 bq, .string bz, .slice fo bJ.length fg, .slice eP cI.length eN, .slice eE bI.length er] 62 (0, 0)) (by (with_reducible repeat (first | refine aK ?_ _ | refine aT ?_ | refine aM ?_ _)); exact bc.out) hb); have cP := ak (bE (by repeat (first | (with_reducible first | exact HB.out | apply al | apply af | apply aq | refine aQ ?_ ia.out) | exact HB.out)) hb); have dh := ak (hbox); have dN := ak ((by rw [hg]; exact (bs (by repeat (first | (with_reducible first | exact HB.out | apply al | apply af | apply aq | refine aQ ?_ ia.out) | exact HB.out))) : w.heap.size ≤ cV)); have jb := ak ((by rw [hg]; exact (bs (by repeat (first | (with_reducible first | exact HB.out | apply al | apply af | apply aq | refine aQ ?_ ia.out) | exact HB.out))) : w.heap.size ≤ cV)); have lM := ak ((by rw [hg]; exact Nat.ne_of_lt (jJ (g := bW) (o := .cells #[.int .u32 bq, .string bz, .slice fo bJ.length fg, .slice eP cI.length eN, .slice eE bI.length er] 62 (0, 0)) (by (with_reducible repeat (first | refine aK ?_ _ | refine aT ?_ | refine aM ?_ _)); exact bc.out)) : bW ≠ cV)); have oU := ak ((by rw [hg]; exact Nat.ne_of_gt (jJ (g := bW) (o := .cells #[.int .u32 bq, .string bz, .slice fo bJ.length fg, .slice eP cI.length eN, .slice eE bI.length er] 62 (0, 0)) (by (with_reducible repeat (first | refine aK ?_ _ | refine aT ?_ | refine aM ?_ _)); exact bc.out)) : cV ≠ bW)); clear bc; clear HB; have bc := cA; have HB := cP; have ek := dh; have eY := dN; have nt := jb; have ed := lM; have jE := oU; clear cA cP dh dN jb lM oU; clear hb hbox hg; have Tp := ed.out; have Tk := jE.out; have QJ : Ei.cell? ⟨bW, 0, none⟩ = some (.int .u32 bq) := (aC bc.out 0).trans rfl; have QI : Ei.cell? ⟨bW, 1, none⟩ = some (.string bz) := (aC bc.out 1).trans rfl; have QH : Ei.cell? ⟨bW, 2, none⟩ = some (.slice fo bJ.length fg) := (aC bc.out 2).trans rfl; have QG : Ei.cell? ⟨bW, 3, none⟩ = some (.slice eP cI.length eN) := (aC bc.out 3).trans rfl; have QF : Ei.cell? ⟨bW, 4, none⟩ = some (.slice eE bI.length er) := (aC bc.out 4).trans rfl; have PN := ao bc.out 0; have PM := ao bc.out 1; have PL := ao bc.out 2; have PK := ao bc.out 3; have PJ := ao bc.out 4) | ((with_reducible refine fJ (f := 100) rfl ?_); refine kF (some 8) rfl rfl Try.func100 (by kernel_rfl) rfl #[.agg #[.int .u32 bq, .string bz, .slice fo bJ.length fg, .slice eP cI.length eN, .slice eE bI.length er], .int .u32 a1] rfl (by (try simp only [List.map_toArray, List.map_cons, List.map_nil]); first | done | rfl | (simp only [List.length_drop, List.length_take]; rfl)) ?_; (with_reducible refine (fz.calls bq bz _ _ bJ _ _ cI _ _ bI a1 false _ ?side1 ?side2 ?side3 ?side4 ?side5 ?side6 A3.out).mono ?_); (case side1 => repeat (first | exact (Kd.C_below pJ.out HB.out) | (with_reducible refine Kd.C_alloc ?_ _) | (with_reducible refine Kd.C_drewN ?_ _) | (with_reducible refine Kd.C_drew ?_))); (case side2 => exact yf.out); (case side3 => repeat (first | exact (Kd.C_below vr.out HB.out) | (with_reducible refine Kd.C_alloc ?_ _) | (with_reducible refine Kd.C_drewN ?_ _) | (with_reducible refine Kd.C_drew ?_))); (case side4 => exact ye.out); (case side5 => repeat (first | exact (Kd.C_below tu.out HB.out) | (with_reducible refine Kd.C_alloc ?_ _) | (with_reducible refine Kd.C_drewN ?_ _) | (with_reducible refine Kd.C_drew ?_))); (case side6 => exact yd.out); rintro e N7 ⟨rfl, hb⟩; refine ⟨_, rfl, ?_⟩; have cA := ak (eM (g := bW) (o := .cells #[.int .u32 bq, .string bz, .slice fo bJ.length fg, .slice eP cI.length eN, .slice eE bI.length er] 62 (0, 0)) (by (with_reducible repeat (first | refine aK ?_ _ | refine aT ?_ | refine aM ?_ _)); exact bc.out) hb); have cP := ak (eM (g := cV) (o := .cells #[.string (⟨#[]⟩ : ByteArray), .string (⟨#[]⟩ : ByteArray)] 76 (0, 0)) (by (with_reducible repeat (first | refine aK ?_ _ | refine aT ?_ | refine aM ?_ _)); exact ek.out) hb); have dh := ak (bE (by repeat (first | (with_reducible first | exact HB.out | apply al | apply af | apply aq | refine aQ ?_ ia.out | refine aQ ?_ nt.out) | exact HB.out)) hb); clear bc; clear ek; clear HB; have bc := cA; have ek := cP; have HB := dh; clear cA cP dh; (try clear hb); (try clear eL); (try clear hk); (try clear hi); have QE : N7.cell? ⟨cV, 0, none⟩ = some (.string (⟨#[]⟩ : ByteArray)) := (aC ek.out 0).trans rfl; have QD : N7.cell? ⟨cV, 1, none⟩ = some (.string (⟨#[]⟩ : ByteArray)) := (aC ek.out 1).trans rfl; have PI := ao ek.out 0; have PH := ao ek.out 1))
  refine bodyPost_ret (eU rfl _ _ cV 76 #[.string (⟨#[]⟩ : ByteArray), .string (⟨#[]⟩ : ByteArray)] (0, 0) _ rfl (by (with_reducible repeat (first | refine aK ?_ _ | refine aT ?_ | refine aM ?_ _)); refine eO (cs := #[.string (⟨#[]⟩ : ByteArray), .string (⟨#[]⟩ : ByteArray)]) ?_ 1 _ rfl; (with_reducible repeat (first | refine aK ?_ _ | refine aT ?_ | refine aM ?_ _)); refine eO (cs := #[.string (⟨#[]⟩ : ByteArray), .string (⟨#[]⟩ : ByteArray)]) ?_ 0 _ rfl; (with_reducible repeat (first | refine aK ?_ _ | refine aT ?_ | refine aM ?_ _)); exact ek.out) Try.underlying76 rfl (by kernel_rfl)) rfl ?_
  exact ⟨by first | rfl | (simp [cw, ct] <;> rfl) | (simp [*, cw, ct] <;> rfl), by repeat (first | (with_reducible first | exact HB.out | apply al | apply af | apply aq | refine aQ ?_ ia.out | refine aQ ?_ nt.out) | exact HB.out)⟩
end Go.Proofs.Ytemhalnhbgkbcaa.V
end

section
namespace Go.Proofs.Ytemhalnhbgkbcaa.V
def kb (b : Bk) (x : Int) : At := if gw b x = true then eR b (x - b.addr).toNat else ⟨⟨#[]⟩, ⟨#[]⟩⟩
theorem Ll (b : Bk) (M : List kz) (x : Int) (h0 : 0 ≤ x) (h1 : x < 4294967296) : fz.f b.addr b.aff b.slots b.free M x = some (decide (bV x = b.addr)) := by
 unfold fz.f bV
 rw [Int.tmod_eq_emod_of_nonneg h0, Int.emod_eq_of_lt (by omega) (by omega)]
 congr 1
theorem OR (b : Bk) (hl : b.slots.length = 64) (hs : nE b.slots) (hle : ∀ s ∈ b.slots, s ≤ (b.attrs.length : Int)) (M : List kz) (hM : M = b.attrs.map vc) (x : Int) (h0 : 0 ≤ x) (h1 : x < 4294967296) :
  eg.f b.addr b.aff b.slots b.free M x = some ((kb b x).f0, (kb b x).f1, gw b x) := by
 have hml : M.length = b.attrs.length := by rw [hM, List.length_map]
 unfold eg.f
 rw [Ll b M x h0 h1, Option.bind_some]
 by_cases hf : bV x = b.addr
 ·have hj : x % 64 = x - b.addr := by unfold bV at hf; omega
  obtain ⟨j, oY⟩ : ∃ j : Nat, x - b.addr = (j : Int) := ⟨(x - b.addr).toNat, by omega⟩
  have mW : j < b.slots.length := by omega
  rw [decide_eq_true hf, if_pos rfl, Int.tmod_eq_emod_of_nonneg h0, hj, oY, if_pos (by omega), if_pos (by omega)]
  have hrd : rd b.slots (j : Int) = b.slots[j] := by simp [rd, List.getD, mW]
  have hgd : b.slots.getD j 0 = b.slots[j] := by simp [List.getD, mW]
  have hh : gw b x = (b.slots[j] != 0) := by
   unfold gw
   rw [decide_eq_true hf, oY, Int.toNat_natCast, hgd, Bool.true_and]
  have hms := hs _ (List.getElem_mem mW)
  have AW := hle _ (List.getElem_mem mW)
  rw [hrd]
  by_cases hz : b.slots[j] = 0
  ·rw [if_pos hz]
   have e : gw b x = false := by rw [hh, hz]; rfl
   unfold kb
   rw [e]
   rfl
  ·rw [if_neg hz]
   have e : gw b x = true := by rw [hh]; simpa using hz
   obtain ⟨m, hm⟩ : ∃ m : Nat, b.slots[j] = (m : Int) + 1 := ⟨(b.slots[j]).toNat - 1, by omega⟩
   have hw : wrap64 (b.slots[j] - 1) = (m : Int) := by rw [hm, iB _ (by omega) (by omega)]; omega
   have hmm : m < b.attrs.length := by omega
   rw [hw, if_pos (by omega), if_pos (by omega)]
   unfold kb
   rw [e, if_pos rfl, oY, Int.toNat_natCast]
   have C1 : eR b j = gF b.attrs m := by
    unfold eR
    rw [hgd, hm]
    congr 1
    omega
   have hx : fv M (m : Int) = vc (gF b.attrs m) := by
    rw [hM]
    show fv (b.attrs.map vc) (m : Int) = vc (cH b.attrs (m : Int))
    simp [fv, cH, List.getD, hmm]
   rw [C1, hx]
   rfl
 ·have e : gw b x = false := by unfold gw; rw [decide_eq_false hf]; rfl
  rw [decide_eq_false hf, if_neg (by decide)]
  unfold kb
  rw [e]
  rfl
theorem oe (b : Bk) (hl : b.slots.length = 64) (hs : nE b.slots) (hle : ∀ s ∈ b.slots, s ≤ (b.attrs.length : Int)) (M : List kz) (As Af Aa : Option Addr) (cs cf ca : Nat) (w : World) (hr : RbR w b M As cs Af cf Aa ca) (x : Int) (h0 : 0 ≤ x) (h1 : x < 4294967296) :
  Calls Try.prog 62 #[.agg (da b.addr b.aff (.slice As b.slots.length cs) (.slice Af b.free.length cf) (.slice Aa M.length ca)).toArray, .int .u32 x] w fun e w' => e = .returned (.tuple #[.agg #[.string (kb b x).f0, .string (kb b x).f1], .bool (gw b x)]) ∧ Below w.heap.size w w' :=
 eg.calls _ _ _ _ _ _ _ _ _ _ _ x _ _ _ w hr.sr hr.sc hr.fr hr.fc hr.ar hr.ac (OR b hl hs hle M hr.m x h0 h1)
end Go.Proofs.Ytemhalnhbgkbcaa.V
end

section
namespace Go.Proofs.Ytemhalnhbgkbcaa.V
def lH (b : Bk) (n : Int) (a : At) : Bool := dm b && (eo a && decide (0 ≤ n))
theorem g9 (a : At) : ∀ u ∈ [Value.string a.f0, .string a.f1], u.oneCell' = true := by
 intro u hu
 simp only [List.mem_cons, List.not_mem_nil, or_false] at hu
 rcases hu with rfl | rfl <;> rfl
set_option maxHeartbeats 8000000 in
set_option maxRecDepth 100000 in
theorem Fw (b : Bk) (hk : BkOk b) (n : Int) (a : At) (hno : lH b n a = false) (v : Value) (w : World) (h : fS w v b) :
  Calls Try.prog 49 #[v, .int .i64 n, ej a] w fun e w' => ∃ v' vo, e = .returned (.tuple #[v', vo, .int .i64 1]) ∧ ea w' w.heap.size v' jP ∧ Kd.R (Kd.int .u32) 46 w' w.heap.size (fun _ => True) vo [] ∧ Below w.heap.size w w' := by
 obtain ⟨A, c, A', c', rfl, hr⟩ := h
 have HL := ak hr.l64
 have HR := ak hr
 have HK := ak hk
 clear hr hk
 have ae := ak (Below.refl w.heap.size w)
 unfold lH at hno
 cases hrt : dm b with
 | false =>
  have HRT := ak hrt
  clear hrt hno
  go_enter Try.func49, Try.ntmps49
  go_wp2_with (first
   | (refine aE rfl 57 (.tmp 0) rfl _ rfl ?_; intro gX W1 J aa I; have bQ := ge ae J; have ai := ak (ae.out.trans (I.mono ae.out.size)); have ah := ak (aa); clear J aa I ae)
   | (refine aE rfl 85 (.tmp 2) rfl _ rfl ?_; intro gA W2 J aa I; have ku := ge ai J; have eD := ne ah J; have av := mv I ai; have au := mv I ah; have cd := ak (aa); clear J aa I ai ah)
   | (refine aw (some 6) rfl rfl 57 rfl a9 bP ?_; intro gZ W3 J aa I; have bN := ge av J; have aG := ne au J; have gf := ne cd J; have aD := mv I av; have aA := mv I au; have dq := mv I cd; have bL := ak (aa); clear J aa I av au cd)
   | ((with_reducible refine ax (N := 12) rfl ?_); refine az rfl 57 (.tmp 3) rfl gX rfl _ _ _ aA.out Try.underlying57 rfl 68 (by kernel_rfl) (ag _ _ _ _ _ HL.out) ?_)
   | (go_at_call 48; refine (dH b HK.out _ _ ⟨A, c, A', c', rfl, HR.out.below aD.out⟩).mono ?_; rintro e W4 ⟨rfl, I⟩; rw [HRT.out]; have aY := mv I aD; have aV := mv I aA; have dI := mv I dq; have a8 := mv I bL; clear I aD aA dq bL)
   | (refine fq rfl 57 #[] rfl a9 la ?_)
   | (refine aN rfl 57 (.tmp 6) (.tmp 24) rfl gZ a9 rfl rfl 57 _ a8.out 68 (by kernel_rfl) rfl rfl iY ?_; intro W5 aa J; have bf := gb aY bN J; have bb := gn aV aG J; have eJ := gx dI a8 J; have bu := ak (aa); clear aa J aY aV dI a8))
  exact bodyPost_ret (ik rfl _ _ gZ 57 _ (0, 0) _ rfl bu.out Try.underlying57 rfl (by simp only [List.size_toArray]; exact cg _ rfl)) rfl ⟨_, _, rfl, mR _ _, Kd.R_nil _ _ _ _ _, bf.out⟩
 | true =>
  have HRT := ak hrt
  cases hm : eo a with
  | false =>
   have HMY := ak hm
   clear hrt hno hm
   go_enter Try.func49, Try.ntmps49
   go_wp2_with (first
    | (refine aE rfl 57 (.tmp 0) rfl _ rfl ?_; intro gX W1 J aa I; have bQ := ge ae J; have ai := ak (ae.out.trans (I.mono ae.out.size)); have ah := ak (aa); clear J aa I ae)
    | (refine aE rfl 85 (.tmp 2) rfl _ rfl ?_; intro gA W2 J aa I; have ku := ge ai J; have eD := ne ah J; have av := mv I ai; have au := mv I ah; have cd := ak (aa); clear J aa I ai ah)
    | (refine aw (some 6) rfl rfl 57 rfl a9 bP ?_; intro gZ W3 J aa I; have bN := ge av J; have aG := ne au J; have gf := ne cd J; have aD := mv I av; have aA := mv I au; have dq := mv I cd; have bL := ak (aa); clear J aa I av au cd)
    | ((with_reducible refine ax (N := 12) rfl ?_); refine az rfl 57 (.tmp 3) rfl gX rfl _ _ _ aA.out Try.underlying57 rfl 68 (by kernel_rfl) (ag _ _ _ _ _ HL.out) ?_)
    | (go_at_call 48; refine (dH b HK.out _ _ ⟨A, c, A', c', rfl, HR.out.below aD.out⟩).mono ?_; rintro e W4 ⟨rfl, I⟩; rw [HRT.out]; have aY := mv I aD; have aV := mv I aA; have dI := mv I dq; have a8 := mv I bL; clear I aD aA dq bL)
    | ((with_reducible refine ax (N := 16) rfl ?_); refine ff (by rfl) ?_; refine az rfl 85 (.tmp 5) rfl gA rfl _ _ _ dI.out Try.underlying85 rfl 2 (by kernel_rfl) rfl ?_)
    | (go_at_call 88; refine (jB a _).mono ?_; rintro e W5 ⟨rfl, I⟩; rw [HMY.out]; have bf := mv I aY; have bb := mv I aV; have eJ := mv I dI; have bu := mv I a8; clear I aY aV dI a8)
    | (refine fq rfl 57 #[] rfl a9 la ?_)
    | (refine aN rfl 57 (.tmp 6) (.tmp 24) rfl gZ a9 rfl rfl 57 _ bu.out 68 (by kernel_rfl) rfl rfl iY ?_; intro W6 aa J; have bG := gb bf bN J; have bh := gn bb aG J; have fy := gx eJ bu J; have bS := ak (aa); clear aa J bf bb eJ bu))
   exact bodyPost_ret (ik rfl _ _ gZ 57 _ (0, 0) _ rfl bS.out Try.underlying57 rfl (by simp only [List.size_toArray]; exact cg _ rfl)) rfl ⟨_, _, rfl, mR _ _, Kd.R_nil _ _ _ _ _, bG.out⟩
  | true =>
   have HMY := ak hm
   rw [hrt, hm] at hno
   have hneg : n < 0 := by
    simp at hno
    omega
   have hd : decide (n < 0) = true := decide_eq_true hneg
   clear hrt hno hm
   go_enter Try.func49, Try.ntmps49
   go_wp2_with (first
    | (refine aE rfl 57 (.tmp 0) rfl _ rfl ?_; intro gX W1 J aa I; have bQ := ge ae J; have ai := ak (ae.out.trans (I.mono ae.out.size)); have ah := ak (aa); clear J aa I ae)
    | (refine aE rfl 85 (.tmp 2) rfl _ rfl ?_; intro gA W2 J aa I; have ku := ge ai J; have eD := ne ah J; have av := mv I ai; have au := mv I ah; have cd := ak (aa); clear J aa I ai ah)
    | (refine aw (some 6) rfl rfl 57 rfl a9 bP ?_; intro gZ W3 J aa I; have bN := ge av J; have aG := ne au J; have gf := ne cd J; have aD := mv I av; have aA := mv I au; have dq := mv I cd; have bL := ak (aa); clear J aa I av au cd)
    | ((with_reducible refine ax (N := 12) rfl ?_); refine az rfl 57 (.tmp 3) rfl gX rfl _ _ _ aA.out Try.underlying57 rfl 68 (by kernel_rfl) (ag _ _ _ _ _ HL.out) ?_)
    | (go_at_call 48; refine (dH b HK.out _ _ ⟨A, c, A', c', rfl, HR.out.below aD.out⟩).mono ?_; rintro e W4 ⟨rfl, I⟩; rw [HRT.out]; have aY := mv I aD; have aV := mv I aA; have dI := mv I dq; have a8 := mv I bL; clear I aD aA dq bL)
    | ((with_reducible refine ax (N := 16) rfl ?_); refine ff (by rfl) ?_; refine az rfl 85 (.tmp 5) rfl gA rfl _ _ _ dI.out Try.underlying85 rfl 2 (by kernel_rfl) rfl ?_)
    | (go_at_call 88; refine (jB a _).mono ?_; rintro e W5 ⟨rfl, I⟩; rw [HMY.out]; have bf := mv I aY; have bb := mv I aV; have eJ := mv I dI; have bu := mv I a8; clear I aY aV dI a8)
    | (refine fq rfl 57 #[] rfl a9 la ?_)
    | (refine aN rfl 57 (.tmp 6) (.tmp 24) rfl gZ a9 rfl rfl 57 _ bu.out 68 (by kernel_rfl) rfl rfl iY ?_; intro W6 aa J; have bG := gb bf bN J; have bh := gn bb aG J; have fy := gx eJ bu J; have bS := ak (aa); clear aa J bf bb eJ bu))
   exact bodyPost_ret (ik rfl _ _ gZ 57 _ (0, 0) _ rfl bS.out Try.underlying57 rfl (by simp only [List.size_toArray]; exact cg _ rfl)) rfl ⟨_, _, rfl, mR _ _, Kd.R_nil _ _ _ _ _, bG.out⟩
end Go.Proofs.Ytemhalnhbgkbcaa.V
end

