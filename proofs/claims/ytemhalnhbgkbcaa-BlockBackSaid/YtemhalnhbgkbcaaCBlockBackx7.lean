/- The law BlockBack for every input: texts of ours, put together (part 8 of 16). No further condition. -/
import Derived.Test.YtemhalnhbgkbcaaCBlockBackx2
import Derived.Test.YtemhalnhbgkbcaaCBlockBackx6
import Derived.Test.YtemhalnhbgkbcaaCBlockBackx4
import Derived.Test.YtemhalnhbgkbcaaCBlockBackx3
import Derived.Outline
import Derived.Test.YtemhalnhbgkbcaaCBlockBackx5
import Derived.Test.YtemhalnhbgkbcaaCBlockBackw0
set_option linter.unusedVariables false
set_option linter.unusedSimpArgs false
open Go.RowKit Go.Proofs.YtemhalnhbgkbcaaW.PrintWords Go.Proofs.YtemhalnhbgkbcaaW.PrintLast Go.Proofs.YtemhalnhbgkbcaaW.PrintMore Go.Proofs.Ytemhalnhbgkbcaa.Z
section
namespace Go.Proofs.Ytemhalnhbgkbcaa.V
theorem N0 (s : Nat) (hs : s < 18446744073709551616) (i : Int) (w : World) : Calls Try.prog 21 #[.int .u64 (s : Int), .int .i64 i] w fun e w' => e = .returned (.int .u64 ((lI s i : Nat) : Int)) ∧ Below w.heap.size w w' :=
 (we s hs i w).mono (by
  rintro e w' ⟨rfl, ⟨nd, rfl⟩⟩
  exact ⟨rfl, af (Below.refl _ _) nd⟩)
theorem Is (s : Nat) (hs : s < 18446744073709551616) (i : Int) (w : World) : Calls Try.prog 20 #[.int .u64 (s : Int), .int .i64 i] w fun e w' => e = .returned (.bool (hasB s i)) ∧ Below w.heap.size w w' :=
 (vz s hs i w).mono (by
  rintro e w' ⟨rfl, ⟨nd, rfl⟩⟩
  exact ⟨rfl, af (Below.refl _ _) nd⟩)
theorem E4 (l : List Int) (k : Nat) (h : k < l.length) (m : Int) (hm : l[k] = m) : lI (fV (l.take k)) (m - 1) = fV (l.take (k + 1)) := by
 unfold fV ux
 rw [List.take_succ_eq_append_getElem h, List.map_append, List.foldl_append, hm]
 rfl
theorem Hf (l : List Int) (k : Nat) (hk : k < 64) : hasB (fV l) (k : Int) = dN l k := by
 have h1 : (fV l).testBit k = decide ((k : Int) ∈ l.map (fun s => s - 1)) := oR _ k hk
 have h2 : hasB (fV l) (k : Int) = (fV l).testBit k := by
  unfold hasB mf
  have e1 : decide ((0 : Int) ≤ (k : Int)) = true := by simp
  have e2 : decide ((k : Int) < 64) = true := by simp; omega
  rw [e1, e2]
  simp
 rw [h2, h1]
 unfold dN
 rw [Bool.eq_iff_iff, decide_eq_true_eq, List.any_eq_true, List.mem_map]
 constructor
 ·rintro ⟨s, hs, he⟩
  exact ⟨s, hs, by rw [beq_iff_eq]; omega⟩
 ·rintro ⟨s, hs, he⟩
  rw [beq_iff_eq] at he
  exact ⟨s, hs, by omega⟩
def lu (l : List Int) (k s : Nat) : Int := if 1 ≤ s ∧ s ≤ k ∧ dN l (s - 1) = true then ((fg l s : Nat) : Int) else 0
def g9 (l : List Int) (k : Nat) : List Int := (List.range 65).map (lu l k)
theorem sF (l : List Int) (k : Nat) : (g9 l k).length = 65 := by simp [g9]
theorem AN (l : List Int) : g9 l 0 = List.replicate 65 0 := by
 unfold g9
 rw [List.eq_replicate_iff]
 refine ⟨by simp, fun x hx => ?_⟩
 obtain ⟨s, _, rfl⟩ := List.mem_map.1 hx
 unfold lu
 rw [if_neg (by omega)]
theorem CU (l : List Int) (k s : Nat) (hs : s < 65) : (g9 l k).getD s 0 = lu l k s := by
 unfold g9
 rw [List.getD_eq_getElem?_getD, List.getElem?_map, List.getElem?_range hs]
 rfl
theorem AP (l : List Int) (k : Nat) (hk : k < 64) (h : dN l k = true) : (g9 l k).set (k + 1) ((fg l (k + 1) : Nat) : Int) = g9 l (k + 1) := by
 apply List.ext_getElem?
 intro s
 rw [List.getElem?_set]
 unfold g9
 simp only [List.length_map, List.length_range, List.getElem?_map]
 by_cases hs : k + 1 = s
 ·subst hs
  rw [if_pos rfl, if_pos (by omega), List.getElem?_range (by omega)]
  show some _ = some (lu l (k + 1) (k + 1))
  unfold lu
  rw [if_pos ⟨by omega, by omega, h⟩]
 ·rw [if_neg hs]
  rcases Nat.lt_or_ge s 65 with h1 | h1
  ·rw [List.getElem?_range h1]
   show some (lu l k s) = some (lu l (k + 1) s)
   unfold lu
   by_cases h2 : 1 ≤ s ∧ s ≤ k ∧ dN l (s - 1) = true
   ·rw [if_pos h2, if_pos ⟨h2.1, by omega, h2.2.2⟩]
   ·rw [if_neg h2, if_neg (fun h3 => h2 ⟨h3.1, by omega, h3.2.2⟩)]
  ·rw [List.getElem?_eq_none (by simpa using h1)]
   rfl
theorem CT (l : List Int) (k : Nat) (h : dN l k = false) : g9 l (k + 1) = g9 l k := by
 unfold g9
 apply List.map_congr_left
 intro s _
 unfold lu
 by_cases h2 : 1 ≤ s ∧ s ≤ k ∧ dN l (s - 1) = true
 ·rw [if_pos h2, if_pos ⟨h2.1, by omega, h2.2.2⟩]
 ·rw [if_neg h2, if_neg (fun h3 => h2 ⟨h3.1, by
   rcases Nat.lt_or_ge k s with h4 | h4
   ·exfalso
    have : s - 1 = k := by omega
    rw [this, h] at h3
    exact absurd h3.2.2 (by decide)
   ·exact h4, h3.2.2⟩)]
theorem p8 (l : List Int) (s : Int) (h : s ∈ l) (h0 : 1 ≤ s) : dN l (s.toNat - 1) = true := by
 unfold dN
 rw [List.any_eq_true]
 exact ⟨s, h, by rw [beq_iff_eq]; omega⟩
theorem CS (l : List Int) (k : Nat) (s : Int) (hs : s ∈ l) (h0 : 0 ≤ s) (h1 : s ≤ (k : Int)) (h2 : s < 65) : (g9 l k).getD s.toNat 0 = ((fg l s.toNat : Nat) : Int) := by
 rw [CU _ _ _ (by omega)]
 unfold lu
 by_cases h : 1 ≤ s.toNat
 ·rw [if_pos ⟨h, by omega, p8 l s hs (by omega)⟩]
 ·have : s.toNat = 0 := by omega
  rw [this, if_neg (by omega)]
  rfl
def su (l : List Int) (k : Nat) : List Int := (l.take k).map (fun s => ((fg l s.toNat : Nat) : Int)) ++ l.drop k
theorem C0 (l : List Int) (k : Nat) : (su l k).length = l.length := by
 unfold su
 rw [List.length_append, List.length_map, List.length_take, List.length_drop]
 omega
theorem GY (l : List Int) : su l l.length = l.map (fun s => ((fg l s.toNat : Nat) : Int)) := by simp [su]
theorem GX (l : List Int) (k : Nat) (h : k < l.length) : (su l k).set k ((fg l (l[k]).toNat : Nat) : Int) = su l (k + 1) := by
 unfold su
 have e : ((l.take k).map (fun s => ((fg l s.toNat : Nat) : Int))).length = k := by rw [List.length_map, List.length_take]; omega
 rw [List.set_append, if_neg (by omega), e, Nat.sub_self, List.drop_eq_getElem_cons h, List.set_cons_zero, List.take_succ_eq_append_getElem h, List.map_append]
 simp
end Go.Proofs.Ytemhalnhbgkbcaa.V
end

section
namespace Go.Proofs.Ytemhalnhbgkbcaa.V
structure RightP (b : Bk) : Prop where
 first : bN b.addr = b.addr
 owner : fY b.aff = true
 na : b.attrs.length ≤ 64
 sa : ∀ s ∈ b.slots, s ≤ (b.attrs.length : Int)
 may : ∀ j, j < b.attrs.length → eP (gH b.attrs j) = true
 nd : ∀ j, j < b.attrs.length → (b.attrs.take j).any (sameAt (gH b.attrs j)) = false
 used : (iv (fV b.slots)).length = b.attrs.length
 fr : ∀ j, j < b.free.length → jl b j = false
 zc : b.slots.countP (fun x => x == 0) = b.free.length
theorem iA {b : Bk} (h : dy b = true) : RightP b := by
 unfold dy kr kB at h
 simp only [Bool.and_eq_true, decide_eq_true_eq, List.all_eq_true, beq_iff_eq, List.mem_range, Bool.not_eq_true'] at h
 obtain ⟨h1, h2, h3, ⟨h4, h5, h6⟩, h7, h8⟩ := h
 exact ⟨h1, h2, h3, h4, fun j hj => (h5 j hj).1, fun j hj => (h5 j hj).2, h6, h7, h8⟩
def vy.T9 : Bool × List (List Nat × List Nat) := (true, [([], []), ([], []), ([1], [1]), ([0, 2], [0, 2]), ([], []), ([4], [4]), ([3, 5, 3], [3, 5]), ([6, 6, 0, 1, 2, 3, 4, 5, 6], [0, 6])])
def vy.B9 : List Nat := [0, 0, 2, 7, 0, 16, 63, 127]
theorem vy.tab9 : dP .any (opsOf Try.f32 9) = vy.T9 := by kernel_rfl
theorem vy.bits9 : dr vy.T9.2 vy.B9 = true := by kernel_rfl
end Go.Proofs.Ytemhalnhbgkbcaa.V
end

section
namespace Go.Proofs.Ytemhalnhbgkbcaa.V
theorem GV (xs ys : List Int) (h : xs.Nodup) (hs : ∀ x ∈ xs, x ∈ ys) : xs.length ≤ ys.length := h.length_le_of_subset hs
theorem C3 (s n : Nat) : (ke s n).Nodup := by
 unfold ke List.Nodup
 rw [List.pairwise_map]
 exact (List.Pairwise.filter _ List.nodup_range).imp (fun {a b} h e => h (by omega))
theorem K3 (l : List Int) : (iv (fV l)).length ≤ (l.filter (fun x => decide (1 ≤ x))).length := by
 have h : (iv (fV l)).length ≤ ((l.filter (fun x => decide (1 ≤ x))).map (fun s => s - 1)).length := by
  refine GV _ _ (C3 _ 64) (fun x hx => ?_)
  obtain ⟨i, rfl, hi, ht⟩ := zV _ _ x hx
  unfold fV at ht
  rw [oR _ i hi, decide_eq_true_eq, List.mem_map] at ht
  obtain ⟨s, hs, he⟩ := ht
  exact List.mem_map.2 ⟨s, List.mem_filter.2 ⟨hs, by simp; omega⟩, he⟩
 simpa using h
theorem Gx (l : List Int) (h : nN l) : (l.filter (fun x => decide (1 ≤ x))).length + l.countP (fun x => x == 0) = l.length := by
 induction l with
 | nil => rfl
 | cons x l ih =>
  have h1 := ih (fun y hy => h y (by simp [hy]))
  have h2 := h x (by simp)
  by_cases hx : x = 0
  ·subst hx
   simp only [List.filter_cons, List.countP_cons, List.length_cons]
   simp
   omega
  ·have h3 : 1 ≤ x := by omega
   simp only [List.filter_cons, List.countP_cons, List.length_cons]
   simp [hx, h3]
   omega
theorem RightP.sum_le {b : Bk} (h : RightP b) (hk : BkOk b) (hl : b.slots.length = 64) : b.attrs.length + b.free.length ≤ 64 := by
 have h1 := K3 b.slots
 have h2 := Gx b.slots hk.s8
 rw [h.used] at h1
 rw [h.zc, hl] at h2
 omega
end Go.Proofs.Ytemhalnhbgkbcaa.V
end

section
namespace Go.Proofs.Ytemhalnhbgkbcaa.V
structure RelOk (b : Bk) (s : Bk × List Int) (n : Nat) : Prop where
 addr : s.1.addr = b.addr
 aff : s.1.aff = b.aff
 attrs : s.1.attrs = b.attrs
 l64 : s.1.slots.length = 64
 s8 : nN s.1.slots
 f8 : nN s.1.free
 le : ∀ x ∈ s.1.slots, x ≤ (b.attrs.length : Int)
 fl : s.1.free.length ≤ b.free.length + n
 ol : s.2.length ≤ n
theorem uH {b : Bk} {x : Int} (h : fy b x = true) : 0 ≤ x - b.addr ∧ x - b.addr < 64 ∧ bN x = b.addr ∧ (b.slots.getD (x - b.addr).toNat 0 != 0) = true := by
 unfold fy at h
 rw [Bool.and_eq_true, decide_eq_true_eq] at h
 obtain ⟨h1, h2⟩ := h
 refine ⟨?_, ?_, h1, h2⟩ <;> (unfold bN at h1; omega)
theorem wS {l : List Int} {i : Nat} {x y : Int} (h : y ∈ l.set i x) : y ∈ l ∨ y = x := List.mem_or_eq_of_mem_set h
theorem K7 {b : Bk} {s : Bk × List Int} {n : Nat} (h : RelOk b s n) (x : Int) : RelOk b (relF s x) (n + 1) := by
 unfold relF
 by_cases hh : fy s.1 x = true
 ·rw [if_pos hh]
  obtain ⟨h1, h2, _, _⟩ := uH hh
  refine ⟨h.addr, h.aff, h.attrs, by simpa using h.l64, fun y hy => ?_, fun y hy => ?_, fun y hy => ?_, ?_, ?_⟩
  ·rcases wS hy with hy | rfl
   ·exact h.s8 y hy
   ·omega
  ·rcases List.mem_append.1 hy with hy | hy
   ·exact h.f8 y hy
   ·rw [List.mem_singleton] at hy
    subst hy
    omega
  ·rcases wS hy with hy | rfl
   ·exact h.le y hy
   ·omega
  ·show (s.1.free ++ [x - s.1.addr]).length ≤ _
   have := h.fl
   rw [List.length_append, List.length_singleton]
   omega
  ·show (s.2 ++ [x]).length ≤ _
   have := h.ol
   rw [List.length_append, List.length_singleton]
   omega
 ·rw [if_neg hh]
  exact ⟨h.addr, h.aff, h.attrs, h.l64, h.s8, h.f8, h.le, by have := h.fl; omega, by have := h.ol; omega⟩
theorem sQ {b : Bk} (hk : BkOk b) (hp : RightP b) (hl : b.slots.length = 64) (l : List Int) : ∀ k, k ≤ l.length → RelOk b (relL b (l.take k)) k := by
 intro k
 induction k with
 | zero => intro _; exact ⟨rfl, rfl, rfl, hl, hk.s8, hk.f8, hp.sa, Nat.le_refl _, Nat.le_refl _⟩
 | succ k ih =>
  intro h
  rw [List.take_succ_eq_append_getElem (by omega), uv]
  exact K7 (ih (by omega)) _
theorem zm (b : Bk) (l : List Int) (k : Nat) (h : k < l.length) (x : Int) (hx : l[k] = x) : relL b (l.take (k + 1)) = relF (relL b (l.take k)) x := by
 rw [List.take_succ_eq_append_getElem h, uv, hx]
end Go.Proofs.Ytemhalnhbgkbcaa.V
end

section
namespace Go.Proofs.Ytemhalnhbgkbcaa.V
theorem nO {α : Type} {d : Kd α} {e base n c : Nat} {ok : Nat → Prop} {W : World} {A : Option Addr} {xs : List α} (h : d.R e W base ok (.slice A n c) xs) (hn : 0 < xs.length) : ∃ g, A = some ⟨g, 0, none⟩ := by
 have hl := (Kd.R_reads' h).1
 obtain ⟨_, inner, ho, _⟩ := h
 rcases ho.2 with ⟨hv, h0⟩ | ⟨g', cap', cur, hv, _⟩
 ·injection hv with h1 h2 h3
  omega
 ·injection hv with h1 h2 h3
  exact ⟨g', h1⟩
theorem DI {e base n cap g : Nat} {ok : Nat → Prop} : ∀ (m o : Nat) (W : World) (xs : List Int), o + m ≤ n → Kd.R (Kd.int .u8) e W base ok (.slice (some ⟨g, 0, none⟩) n cap) xs →
  ∃ ys, ys.length = xs.length ∧ ys.take o = xs.take o ∧ Kd.R (Kd.int .u8) e (W.setCells g o (List.replicate m (.int .u8 0))) base ok (.slice (some ⟨g, 0, none⟩) n cap) ys ∧ W.grownBy (W.setCells g o (List.replicate m (.int .u8 0))) (some g)
 | 0, o, W, xs, _, h => ⟨xs, rfl, rfl, h, ⟨rfl, rfl, rfl, Nat.le_refl _, fun _ _ _ => rfl⟩⟩
 | m + 1, o, W, xs, ho, h => by
  have hn := (Kd.R_reads' h).1
  obtain ⟨ce, hcl, _, hcc, _⟩ := Kd.R_elem h 0 (o : Int) (by omega) (by omega)
  obtain ⟨u, rfl⟩ := List.length_eq_one_iff.1 (show ce.length = 1 from hcl)
  have hsg := Kd.R_seg h (o : Int) (by omega) (by omega) (seg := [.int .u8 0]) (j := 0) (x' := (0 : Int)) (okp := fun _ => False) hcl hcc (Nat.le_refl 1) rfl (fun _ h => h.elim)
  have e1 : ((o : Int).toNat * (Kd.int .u8).sz + 0) = o := by show (o : Int).toNat * 1 + 0 = o; omega
  rw [e1] at hsg
  obtain ⟨ys, hl, ht, hr, hg⟩ := DI m (o + 1) _ _ (by omega) hsg.1
  refine ⟨ys, by rw [hl, List.length_set], ?_, hr, ?_⟩
  ·have h2 := congrArg (List.take o) ht
   rw [List.take_take, List.take_take, show min o (o + 1) = o by omega] at h2
   rw [h2, List.take_set_of_le (by omega)]
  ·exact ⟨hg.os.trans hsg.2.os, hg.tape.trans hsg.2.tape, hg.output.trans hsg.2.output, Nat.le_trans hsg.2.size hg.size, fun k hk hne => (hg.block k (Nat.lt_of_lt_of_le hk hsg.2.size) hne).trans (hsg.2.block k hk hne)⟩
theorem ID {e base n cap g : Nat} {ok : Nat → Prop} {W : World} {xs : List Int} (h : Kd.R (Kd.int .u8) e W base ok (.slice (some ⟨g, 0, none⟩) n cap) xs) (j : Nat) (hj : j < n) : (∃ u, W.cell? ⟨g, j, none⟩ = some u) ∧ W.frozen? ⟨g, j, none⟩ = false := by
 obtain ⟨ce, hcl, _, hcc, hcf⟩ := Kd.R_elem h 0 (j : Int) (by omega) (by omega)
 obtain ⟨u, rfl⟩ := List.length_eq_one_iff.1 (show ce.length = 1 from hcl)
 have e1 : ((j : Int).toNat * (Kd.int .u8).sz + 0) = j := by show (j : Int).toNat * 1 + 0 = j; omega
 have h1 := hcc 0 u rfl
 have h2 := hcf 0
 rw [e1] at h1 h2
 exact ⟨⟨u, h1⟩, h2⟩
theorem Mp (w : World) : (zeroValue 5).run Try.prog w = .ok (.int .u8 0) w := by kernel_rfl
def fS (i : Int) (x : Int) : Bool := !(x == i)
theorem Ft (xs L : List Int) (i : Int) (j ii : Nat) (hj : j < xs.length) (hl : L.length = xs.length) (hij : ii < j) (h1 : L.take ii = (xs.take j).filter (fS i)) (h2 : L.drop j = xs.drop j) (hk : (xs[j] == i) = false) :
  (L.set ii xs[j]).length = xs.length ∧ (L.set ii xs[j]).take (ii + 1) = (xs.take (j + 1)).filter (fS i) ∧ (L.set ii xs[j]).drop (j + 1) = xs.drop (j + 1) := by
 refine ⟨by simpa using hl, ?_, ?_⟩
 ·rw [List.take_add_one, List.take_set_of_le (by omega), List.getElem?_set_self (by omega), h1, List.take_succ_eq_append_getElem hj, List.filter_append]
  congr 1
  simp [fS, hk]
 ·rw [List.drop_set_of_lt (by omega)]
  have := congrArg (List.drop 1) h2
  rwa [List.drop_drop, List.drop_drop] at this
theorem FO (xs L : List Int) (i : Int) (j ii : Nat) (hj : j < xs.length) (h1 : L.take ii = (xs.take j).filter (fS i)) (h2 : L.drop j = xs.drop j) (hk : (xs[j] == i) = true) :
  L.take ii = (xs.take (j + 1)).filter (fS i) ∧ L.drop (j + 1) = xs.drop (j + 1) := by
 refine ⟨?_, ?_⟩
 ·rw [h1, List.take_succ_eq_append_getElem hj, List.filter_append]
  congr 1
  simp [fS, hk]
 ·have := congrArg (List.drop 1) h2
  rwa [List.drop_drop, List.drop_drop] at this
theorem Ej (xs : List Int) (i : Int) (k : Nat) (hk : k < xs.length) (h : (xs[k] == i) = true) (hn : ∀ j (hj : j < k), (xs[j] == i) = false) : xs.take k = (xs.take (k + 1)).filter (fS i) := by
 rw [List.take_add_one, List.getElem?_eq_getElem hk, List.filter_append]
 have e : (xs.take k).filter (fS i) = xs.take k := by
  rw [List.filter_eq_self]
  intro x hx
  obtain ⟨j, hj, rfl⟩ := List.mem_iff_getElem.1 hx
  rw [List.length_take] at hj
  have := hn j (by omega)
  rw [List.getElem_take]
  simp [fS, this]
 rw [e]
 simp [fS, h]
theorem Hm (xs L : List Int) (j : Nat) (hj : j < xs.length) (hl : L.length = xs.length) (h : L.drop j = xs.drop j) : rd L j = xs[j] := by
 have h1 := congrArg (fun l => l[0]?) h
 simp only [List.getElem?_drop, Nat.add_zero] at h1
 rw [List.getElem?_eq_getElem (by omega), List.getElem?_eq_getElem hj] at h1
 simp only [rd, List.getD, Int.toNat_natCast]
 rw [List.getElem?_eq_getElem (by omega)]
 exact Option.some.inj h1
set_option maxHeartbeats 8000000 in
set_option maxRecDepth 100000 in
theorem y6 (xs : List Int) (hu : nN xs) (hl : xs.length ≤ 1000) (A : Option Addr) (c : Nat) (i : Int) (g b1 : Nat) (w : World) (hR : Kd.R (Kd.int .u8) 5 w b1 (fun _ => True) (.slice A xs.length c) xs) (hX : aH w g [.int .i64 i] 3) (cA : b1 ≤ w.heap.size) :
  Calls Try.prog 93 #[.slice A xs.length c, Nm g] w fun e w' => ∃ v, e = .returned v ∧ Kd.R (Kd.int .u8) 5 w' b1 (fun _ => True) v (xs.filter (fS i)) ∧ Below b1 w w' ∧ gJ (fun k => some k = (Value.slice A xs.length c).ownBlock) w w' := by
 have hC := (Kd.R_reads' hR).2.2
 have hcap := (Kd.R_reads' hR).2.1
 have HR := ak hR
 have HX := ak hX
 have HU := ak hu
 have cn := ak cA
 have HIF := ak (zY xs hu hl A c i g w hC hX)
 clear hX hu cA hC
 cases hi : sy xs i with
 | none =>
  rw [hi] at HIF
  have HF := ak (show xs.filter (fS i) = xs from List.filter_eq_self.2 (fun x hx => by simp [fS, Fv hi x hx]))
  clear hi hR
  go_enter Try.func93, Try.ntmps93
  go_wp2_with (go_at_call 111; refine (HIF.out).mono ?_; rintro e W1 ⟨rfl, cA⟩; have HB := ak cA; clear cA; unfold sx)
  go_ret
  exact ⟨_, rfl, by rw [HF.out]; exact Kd.R_below HR.out HB.out, HB.out.mono cn.out, gJ.of_below HB.out⟩
 | some k0 =>
  rw [hi] at HIF
  obtain ⟨MT, Px, lK⟩ := Fu hi
  obtain ⟨gr, rfl⟩ := nO hR (Nat.lt_of_le_of_lt (Nat.zero_le _) MT)
  have H1 := ak (Ej xs i k0 MT Px lK)
  have uI : ((k0 : Int) == (-1 : Int)) = false := by rw [beq_eq_false_iff_ne]; omega
  have HGR := ak (Kd.R_base hR gr rfl)
  clear hi hR Px lK
  go_enter Try.func93, Try.ntmps93
  go_wp2_with (go_at_call 111; refine (HIF.out).mono ?_; rintro e W1 ⟨rfl, cA⟩; have HB := ak cA; clear cA; unfold sx)
  go_loopw [5, 6, 7] (fun t j _ W => ∃ (jj ii : Nat) (L : List Int), jj ≤ xs.length ∧ ii < jj ∧ t = .int .i64 ii ∧ j = .int .i64 jj ∧ Aside0 (L.length = xs.length) ∧ Aside0 (L.take ii = (xs.take jj).filter (fS i)) ∧ Aside0 (L.drop jj = xs.drop jj) ∧ Aside0 (Kd.R (Kd.int .u8) 5 W b1 (fun _ => True) (.slice (some ⟨gr, 0, none⟩) xs.length c) L) ∧ Aside0 (aH W g [.int .i64 i] 3) ∧ Aside0 (Below b1 w W) ∧ Aside0 (gJ (fun k => some k = some gr) w W)) (fun _ j _ _ => xs.length - (intOf j).toNat)
  case atStart => exact ⟨k0 + 1, k0, xs, by omega, by omega, rfl, by go_num, ⟨rfl⟩, H1, ⟨rfl⟩, ⟨Kd.R_below HR.out HB.out⟩, ⟨HX.out.below HB.out⟩, ⟨HB.out.mono cn.out⟩, ⟨gJ.of_below HB.out⟩⟩
  case round =>
   clear HB H1 uI MT
   obtain ⟨jj, ii, L, hjj, hij, rfl, rfl, HL, HT, HD, HRL, HXL, HBL, HKL⟩ := hrel
   obtain ⟨W, rfl⟩ : ∃ W : World, W = wr := ⟨_, rfl⟩
   by_cases hlt : jj < xs.length
   ·have hkb : decide ((jj : Int) < (xs.length : Int)) = true := by simp; omega
    have hLl := HL.out
    obtain ⟨ad, eA, hx⟩ := Kd.at_int (Kd.R_reads' HRL.out).2.2 jj (by omega) (by omega)
    clear hLl
    cases eA
    rw [Int.toNat_natCast, add_plain] at hx
    have p1 : ((jj : Int) < (xs.length : Int)) = True := eq_true (by omega)
    have hrd := Hm xs L jj hlt HL.out HD.out
    have h0 : 0 ≤ xs[jj] ∧ xs[jj] < 256 := HU.out _ (List.getElem_mem hlt)
    obtain ⟨x, hxx⟩ : ∃ x, x = xs[jj] := ⟨_, rfl⟩
    rw [← hxx] at hrd h0
    rw [hrd] at hx
    have HXK := ak hxx
    clear hrd hxx
    cases hq : (x == i) with
    | true =>
     have HQ := ak hq
     clear hq
     have HG := ak (FO xs L i jj ii hlt HT.out HD.out (by rw [← HXK.out]; exact HQ.out))
     go_wp2_with (go_at_call 94; refine (Ac x i h0.1 h0.2 g _ HXL.out).mono ?_; rintro e W2 ⟨rfl, eU⟩; rw [HQ.out]; have zJ := ak (Kd.R_below HRL.out eU); have gv := ak (HXL.out.below eU); have jz := ak (HBL.out.trans (eU.mono (lb cn HBL))); have Gr := ak (gJ.trans HKL.out (gJ.of_below eU)); clear eU)
     go_roundw
     case rel => exact ⟨jj + 1, ii, L, by omega, by omega, rfl, by go_num, HL, ⟨HG.out.1⟩, ⟨HG.out.2⟩, zJ, gv, jz, Gr⟩
     case measure => simp [intOf]; omega
    | false =>
     have HQ := ak hq
     clear hq
     have HG := ak (Ft xs L i jj ii hlt HL.out hij HT.out HD.out (by rw [← HXK.out]; exact HQ.out))
     rw [← HXK.out] at HG
     have hlast : (ii : Int) < (xs.length : Int) := by omega
     have e1 : ((ii : Int).toNat * (Kd.int .u8).sz + 0) = ii := by show (ii : Int).toNat * 1 + 0 = ii; omega
     have E1 := ak e1
     clear e1
     go_wp2_with (first
      | (go_at_call 94; refine (Ac x i h0.1 h0.2 g _ HXL.out).mono ?_; rintro e W2 ⟨rfl, eU⟩; rw [HQ.out]; have zJ := ak (Kd.R_below HRL.out eU); have gv := ak (HXL.out.below eU); have jz := ak (HBL.out.trans (eU.mono (lb cn HBL))); have Gr := ak (gJ.trans HKL.out (gJ.of_below eU)); obtain ⟨ce, hcl, Tv, hcc, hcf⟩ := Kd.R_elem zJ.out 0 (ii : Int) (by omega) hlast; obtain ⟨u, rfl⟩ := List.length_eq_one_iff.1 (show ce.length = 1 from hcl); have HCC := ak hcc; have HCL := ak hcl; have Il : W2.cell? ⟨gr, ii, none⟩ = some u := (by have h_ := hcc 0 u rfl; rwa [E1.out] at h_); have vT : W2.frozen? ⟨gr, ii, none⟩ = false := (by have h_ := hcf 0; rwa [E1.out] at h_); clear eU hx hcc hcl hcf Tv))
     clear Il vT
     have hsg := Kd.R_seg zJ.out (ii : Int) (by omega) hlast (seg := [.int .u8 x]) (j := 0) (x' := x) (okp := fun _ => False) HCL.out HCC.out (Nat.le_refl 1) rfl (fun _ h => h.elim)
     rw [E1.out, Int.toNat_natCast] at hsg
     have TT := ak hsg.1
     have Dq := hsg.2
     have nT := ak (gv.out.grown Dq (gv.out.ne_row zJ.out (by decide)))
     have TW := ak (gJ.trans Gr.out (gJ.of_grown Dq (fun k hk => hk)))
     have jO := ak (jz.out.grown Dq (lb cn jz) (by intro k hk; cases hk; exact HGR.out))
     clear hsg Dq
     go_roundw
     case rel => exact ⟨jj + 1, ii + 1, L.set ii x, by omega, by omega, by go_num, by go_num, ⟨HG.out.1⟩, ⟨HG.out.2.1⟩, ⟨HG.out.2.2⟩, TT, nT, jO, TW⟩
     case measure => simp [intOf]; omega
   ·obtain rfl : jj = xs.length := by omega
    have hkb : decide ((xs.length : Int) < (xs.length : Int)) = false := by simp
    have hcl : ∀ ty, (Builtin.clear_ #[48] ty #[.slice (some ⟨gr, ii, none⟩) (xs.length - ii) (c - ii)]).run Try.prog W = .ok (.tuple #[]) (W.setCells gr ii (List.replicate (xs.length - ii) (.int .u8 0))) :=
     fun ty => Lib.run_clear_slice W 48 5 ty (.int .u8 0) Try.underlying48 Mp rfl rfl gr ii _ _ (by omega) (fun j hj => by
      obtain ⟨⟨u, hu⟩, _⟩ := ID HRL.out (ii + j) (by omega)
      rw [hu]
      rfl) (fun j hj => (ID HRL.out (ii + j) (by omega)).2)
    have hcne : ¬ c = ii := by omega
    have HZ := ak (DI (xs.length - ii) ii W L (by omega) HRL.out)
    rw [List.take_of_length_le (Nat.le_refl xs.length)] at HT
    generalize Vo : W.setCells gr ii (List.replicate (xs.length - ii) (.int .u8 0)) = W2 at hcl HZ
    go_wp2
    go_ret
    obtain ⟨ys, hyl, hyt, hyr, hyg⟩ := HZ.out
    have hr := Kd.R_take hyr (m := ii) (by rw [hyl, HL.out]; omega)
    rw [hyt, HT.out] at hr
    exact ⟨_, rfl, hr, HBL.out.grown hyg (lb cn HBL) (by intro k hk; cases hk; exact HGR.out), gJ.trans HKL.out (gJ.of_grown hyg (fun k hk => hk))⟩
end Go.Proofs.Ytemhalnhbgkbcaa.V
end

section
namespace Go.Proofs.Ytemhalnhbgkbcaa.V
def wa (l : List At) : Prop := ∀ j, j < l.length → (l.take j).any (sameAt (gH l j)) = false
theorem m9 {b : Bk} (hp : RightP b) (hk : BkOk b) (j : Nat) (h : j < b.free.length) : 0 ≤ rd b.free j ∧ rd b.free j < 64 ∧ rd b.free j ∉ b.free.take j ∧ b.slots.getD (rd b.free j).toNat 0 = 0 := by
 have h1 := hp.fr j h
 unfold jl at h1
 simp only [Bool.or_eq_false_iff, decide_eq_false_iff_not, bne_eq_false_iff_eq] at h1
 exact ⟨(mZ hk.f8 j).1, by omega, h1.2.1, h1.2.2⟩
theorem oA (l : List Int) (k : Nat) (h : k < l.length) : rd l k = l[k] := by simp [rd, List.getD, h]
theorem FU {b : Bk} (hp : RightP b) (hk : BkOk b) (k : Nat) (h : k < b.free.length) : (b.free.drop k).filter (fS (rd b.free k)) = b.free.drop (k + 1) := by
 rw [List.drop_eq_getElem_cons h, List.filter_cons]
 have e := oA b.free k h
 rw [e]
 have h0 : fS b.free[k] b.free[k] = false := by simp [fS]
 rw [h0, if_neg (by decide), List.filter_eq_self]
 intro x hx
 obtain ⟨i, hi, rfl⟩ := List.mem_iff_getElem.1 hx
 rw [List.length_drop] at hi
 have hm := (m9 hp hk (k + 1 + i) (by omega)).2.2.1
 rw [oA b.free (k + 1 + i) (by omega)] at hm
 rw [List.getElem_drop]
 have hne : b.free[k + 1 + i] ≠ b.free[k] := fun e2 => hm (by
  rw [e2]
  exact List.mem_take_iff_getElem.2 ⟨k, by omega, rfl⟩)
 simp [fS, hne]
theorem MG {l : List At} (h : wa l) (a : At) : wa (ea l a) := by
 unfold ea
 cases hi : fJ l a with
 | some i => exact h
 | none =>
  show wa (l ++ [a])
  intro j hj
  rw [List.length_append, List.length_singleton] at hj
  rcases Nat.lt_or_ge j l.length with h1 | h1
  ·have e1 : (l ++ [a]).take j = l.take j := by rw [List.take_append_of_le_length (by omega)]
   have e2 : gH (l ++ [a]) j = gH l j := by
    rw [ks _ _ (by simp; omega), ks _ _ h1, List.getElem_append_left h1]
   rw [e1, e2]
   exact h j h1
  ·obtain rfl : j = l.length := by omega
   have e1 : (l ++ [a]).take l.length = l := by simp
   have e2 : gH (l ++ [a]) l.length = a := by
    rw [ks _ _ (by simp)]
    simp
   rw [e1, e2]
   unfold fJ at hi
   rw [List.findIdx?_eq_none_iff] at hi
   rw [List.any_eq_false]
   intro x hx
   simpa using hi x hx
theorem Nt {b : Bk} (h : wa b.attrs) (k : Nat) (a : At) : wa (di b k a).attrs := by
 show wa (if k = 0 then b.attrs else ea b.attrs a)
 split
 ·exact h
 ·exact MG h a
theorem F8 (b : Bk) (k : Nat) (a : At) : (di b k a).slots.length = b.slots.length ∧ (di b k a).free.length ≤ b.free.length ∧ (di b k a).attrs.length ≤ b.attrs.length + 1 := by
 refine ⟨jA _ _ _, ?_, ?_⟩
 ·show (b.free.drop k).length ≤ _
  rw [List.length_drop]
  omega
 ·show (if k = 0 then b.attrs else ea b.attrs a).length ≤ _
  split
  ·omega
  ·exact pN _ _
theorem BH {b : Bk} (hp : RightP b) (hk : BkOk b) (k : Nat) (h : k < b.free.length) (a : At) : fH (di b k a) (rd b.free k).toNat a = di b (k + 1) a := by
 have h0 := m9 hp hk k h
 have hmid := oV b k a h
 have e : di b (k + 1) a = ⟨b.addr, b.aff, (dY b (k + 1) a).slots, b.free.drop (k + 1), (dY b (k + 1) a).attrs⟩ := rfl
 rw [e, hmid, ← FU hp hk k h]
 unfold fH
 congr 1
 show (b.free.drop k).filter (fS ((rd b.free k).toNat : Int)) = _
 rw [Int.toNat_of_nonneg h0.1]
theorem Hu (b : Bk) (a : At) : di b 0 a = b := rfl
theorem Cu (b : Bk) (k : Nat) (a : At) (h : k < b.free.length) : 0 < (di b k a).free.length ∧ rd (di b k a).free 0 = rd b.free k := by
 constructor
 ·show 0 < (b.free.drop k).length
  rw [List.length_drop]
  omega
 ·show rd (b.free.drop k) 0 = _
  simp [rd, List.getD]
end Go.Proofs.Ytemhalnhbgkbcaa.V
end

section
namespace Go.Proofs.Ytemhalnhbgkbcaa.V
theorem yM (a : At) : ∀ u ∈ [Value.string (vc a).f0, .string (vc a).f1], u.oneCell' = true := by
 intro u hu
 simp only [List.mem_cons, List.not_mem_nil, or_false] at hu
 rcases hu with rfl | rfl <;> rfl
theorem zt (l : List Int) (i : Int) (k : Nat) (h : k < l.length) : (l.take (k + 1)).filter (fS i) = (l.take k).filter (fS i) ++ if (l[k] == i) = true then [] else [l[k]] := by
 rw [List.take_succ_eq_append_getElem h, List.filter_append]
 congr 1
 cases hq : (l[k] == i) <;> simp [fS, hq]
set_option maxHeartbeats 16000000 in
set_option maxRecDepth 100000 in
theorem BI (b : Bk) (hl : b.slots.length = 64) (hf : b.free.length ≤ 1000) (ha : b.attrs.length ≤ 100) (hnd : ∀ j, j < b.attrs.length → (b.attrs.take j).any (sameAt (gH b.attrs j)) = false) (i : Nat) (hi : i < 64) (a : At) (v : Value) (w : World) (h : jZ w v b) :
  Calls Try.prog 106 #[v, .int .i64 i, .agg #[.string a.f0, .string a.f1]] w fun e w' => ∃ v', e = .returned v' ∧ eM w' w.heap.size v' (fH b i a) ∧ Below w.heap.size w w' := by
 obtain ⟨M, Gt, F0, Gu, F3, Gv, F5, rfl, hr⟩ := h
 have xP := ak hr.m
 have hml : M.length = b.attrs.length := by rw [hr.m, List.length_map]
 have HML := ak hml
 have HR := ak hr
 have HL := ak hl
 have HND := ak hnd
 have HFL := ak hf
 have Bu : M.length ≤ 100 := by omega
 have HCP := ak (fun w h => z9 b (by omega) (by omega) M (by omega) Gt F0 Gu F3 Gv F5 w h)
 have ae := ak (Below.refl w.heap.size w)
 clear hr hl hnd hml hf
 go_enter Try.func106, Try.ntmps106
 go_wp2_with (first
  | (refine aE rfl 62 (.tmp 0) rfl _ rfl ?_; intro gX W1 J aa I; have bS := ge ae J; have aj := ak (ae.out.trans (I.mono ae.out.size)); have ah := ak (aa); clear J aa I ae)
  | (refine aE rfl 76 (.tmp 2) rfl _ rfl ?_; intro gA W2 J aa I; have kj := ge aj J; have eJ := ne ah J; have aw := mv I aj; have au := mv I ah; have bU := ak (aa); clear J aa I aj ah)
  | (refine ax (some 6) rfl rfl 62 rfl dM (fun _ => by kernel_rfl) ?_; intro gZ W3 J aa I; have bO := ge aw J; have aG := ne au J; have gh := ne bU J; have aD := mv I aw; have aA := mv I au; have cR := mv I bU; have bQ := ak (aa); clear J aa I aw au bU)
  | ((with_reducible refine av (N := 13) rfl ?_); refine ay rfl 62 (.tmp 3) rfl gX rfl _ _ _ aA.out Try.underlying62 rfl 5 (by kernel_rfl) rfl ?_)
  | (go_at_call 85; refine (HCP.out _ (HR.out.below aD.out)).mono ?_; rintro e W4 ⟨vs, vf, va, rfl, te, cV, dA, I⟩; obtain ⟨As, cs, rfl⟩ := Kd.R_slice te; obtain ⟨Af, cf, rfl⟩ := Kd.R_slice cV; obtain ⟨Aa, ca, rfl⟩ := Kd.R_slice dA; have HSZ := ak aD.out.size; have HGL := ak (show gA < W3.heap.size from cR.out.lt); have aW := mv I aD; have aV := mv I aA; have dd := mv I cR; have bb := mv I bQ; have cP := ak (te); have cd := ak (cV); have dw := ak (dA); clear te cV dA I aD aA cR bQ)
  | (refine aN rfl 62 (.tmp 3) (.tmp 14) rfl gX (dt b.addr b.aff (.slice As b.slots.length cs) (.slice Af b.free.length cf) (.slice Aa M.length ca)) rfl rfl 62 _ aV.out 5 (by kernel_rfl) rfl rfl (dO _ _ rfl rfl rfl) ?_; intro W5 aa J; have bf := gb aW bS J; have a9 := ak (aa); have eg := gx dd aV J; have bu := gm bb aG J; have cY := gr cP aV J; have b8 := gr cd aV J; have cQ := gr dw aV J; have nI := aa.cell 4 _ rfl; clear aa J aW aV dd bb cP cd dw))
 clear nI
 obtain ⟨b1, cA⟩ : ∃ b1, b1 = W3.heap.size := ⟨_, rfl⟩
 rw [← cA] at cY b8 cQ HSZ HGL
 have cn := ak (show w.heap.size ≤ b1 from HSZ.out)
 clear cA HSZ
 go_loopw [7, 8, 9, 18] (fun q _ _ u W => ∃ k : Nat, k ≤ M.length ∧ u = .int .i64 k ∧ q = .int .i64 (sx (fJ (b.attrs.take k) a)) ∧ Aside0 (aH W gX (dt b.addr b.aff (.slice As b.slots.length cs) (.slice Af b.free.length cf) (.slice Aa M.length ca)) 62) ∧ Aside0 (aH W gA [.string (vc a).f0, .string (vc a).f1] 76) ∧ Aside0 (aH W gZ dM 62) ∧ Aside0 (Kd.R (Kd.int .i64) 3 W b1 (fun k => some k ≠ (Value.slice Af b.free.length cf).ownBlock) (.slice As b.slots.length cs) b.slots) ∧ Aside0 (Kd.R (Kd.int .i64) 3 W b1 (fun k => some k ≠ (Value.slice As b.slots.length cs).ownBlock) (.slice Af b.free.length cf) b.free) ∧ Aside0 (Kd.R hH 76 W b1 (fun _ => True) (.slice Aa M.length ca) M) ∧ Aside0 (Below w.heap.size w W)) (fun _ _ _ u _ => M.length - (intOf u).toNat)
 case atStart => exact ⟨0, by omega, rfl, rfl, a9, eg, bu, cY, b8, cQ, bf⟩
 case round =>
  clear a9 eg bu cY b8 cQ bf
  obtain ⟨k, hk, rfl, rfl, aI, eO, bA, aZ, bl, bL, ae⟩ := hrel
  obtain ⟨W, rfl⟩ : ∃ W : World, W = wr := ⟨_, rfl⟩
  by_cases hkn : k < M.length
  ·have hkb : decide ((k : Int) < (M.length : Int)) = true := by simp; omega
   obtain ⟨ad, eA, jg, lf⟩ := F6 (Kd.R_reads' bL.out).2.2 k (by omega) (by omega)
   cases eA
   rw [Int.toNat_natCast] at jg lf
   have p1 : ((k : Int) < (M.length : Int)) = True := eq_true (by omega)
   have hka : k < b.attrs.length := by have := HML.out; omega
   obtain ⟨x, hx⟩ : ∃ x : At, gH b.attrs k = x := ⟨_, rfl⟩
   have hx' : fG M (k : Int) = vc x := by
    rw [← hx, xP.out]
    show fG (b.attrs.map vc) (k : Int) = vc (cU b.attrs (k : Int))
    simp [fG, cU, List.getD, hka]
   rw [hx'] at jg lf
   obtain ⟨q, hq⟩ : ∃ q, q = sx (fJ (b.attrs.take k) a) := ⟨_, rfl⟩
   rw [← hq]
   have hsd : sameAt x a = ((vc x).f0.toList == (vc a).f0.toList && (vc x).f1.toList == (vc a).f1.toList) := rfl
   cases e0 : ((vc x).f0.toList == (vc a).f0.toList) with
   | true =>
    cases e1 : ((vc x).f1.toList == (vc a).f1.toList) with
    | true =>
     rw [e0, e1] at hsd
     have HQ := ak (show sx (fJ (b.attrs.take (k + 1)) a) = (k : Int) by rw [zZ b.attrs a k hka (by rw [hx]; exact hsd) (HND.out k hka)]; rfl)
     clear hx hx' hq hsd
     go_wp2_with (first
      | (refine ax (some 9) rfl rfl 76 rfl [.string ⟨#[]⟩, .string ⟨#[]⟩] (fun _ => by kernel_rfl) ?_; intro gV W1 J aa I; have cG := ge ae J; have ep := ne aI J; have kY := ne eO J; have j7 := ne bA J; have ah := mv I aI; have e7 := mv I eO; have bR := mv I bA; have bd := mv I aZ; have bg := mv I bl; have bG := ak (Kd.R_mono (ok' := fun k_ => k_ ≠ gV) (Kd.R_below (Kd.R_bound bL.out) I) (fun k_ bV e_ => by have h_ := bV.2.2.1; omega)); have aj := ak (ae.out.trans (I.mono ae.out.size)); have fE := ak (aa); clear J aa I aI eO bA aZ bl bL ae)
      | (refine aN rfl 76 (.tmp 9) (.tmp 22) rfl gV [.string (vc x).f0, .string (vc x).f1] rfl rfl 76 _ fE.out 2 (by kernel_rfl) rfl rfl (yM x) ?_; intro W2 aa J; have au := gx ah fE J; have bU := gn e7 kY J; have b4 := gx bR fE J; have bF := gr bd fE J; have bM := gr bg fE J; have cw := ak (Kd.R_mono (ok' := fun _ => True) (Kd.R_grown bG.out J (fun k_ bV e_ => bV (Option.some.inj e_))) (fun _ _ => trivial)); have aw := gb aj cG J; have dF := ak (aa); have mJ := aa.cell 0 _ rfl; have lB := aa.cell 1 _ rfl; have Eh := bU.out.cell 0 _ rfl; have Eg := bU.out.cell 1 _ rfl; clear aa J ah e7 bR bd bg bG aj fE))
     go_roundw
     case rel => exact ⟨k + 1, by omega, by go_num, by rw [HQ.out], au, bU, b4, bF, bM, cw, aw⟩
     case measure => simp [intOf]; omega
    | false =>
     rw [e0, e1] at hsd
     have HQ := ak (show sx (fJ (b.attrs.take (k + 1)) a) = q by rw [tW b.attrs a k hka (by rw [hx]; exact hsd), hq])
     clear hx hx' hq hsd
     go_wp2_with (first
      | (refine ax (some 9) rfl rfl 76 rfl [.string ⟨#[]⟩, .string ⟨#[]⟩] (fun _ => by kernel_rfl) ?_; intro gV W1 J aa I; have cG := ge ae J; have ep := ne aI J; have kY := ne eO J; have j7 := ne bA J; have ah := mv I aI; have e7 := mv I eO; have bR := mv I bA; have bd := mv I aZ; have bg := mv I bl; have bG := ak (Kd.R_mono (ok' := fun k_ => k_ ≠ gV) (Kd.R_below (Kd.R_bound bL.out) I) (fun k_ bV e_ => by have h_ := bV.2.2.1; omega)); have aj := ak (ae.out.trans (I.mono ae.out.size)); have fE := ak (aa); clear J aa I aI eO bA aZ bl bL ae)
      | (refine aN rfl 76 (.tmp 9) (.tmp 22) rfl gV [.string (vc x).f0, .string (vc x).f1] rfl rfl 76 _ fE.out 2 (by kernel_rfl) rfl rfl (yM x) ?_; intro W2 aa J; have au := gx ah fE J; have bU := gn e7 kY J; have b4 := gx bR fE J; have bF := gr bd fE J; have bM := gr bg fE J; have cw := ak (Kd.R_mono (ok' := fun _ => True) (Kd.R_grown bG.out J (fun k_ bV e_ => bV (Option.some.inj e_))) (fun _ _ => trivial)); have aw := gb aj cG J; have dF := ak (aa); have mJ := aa.cell 0 _ rfl; have lB := aa.cell 1 _ rfl; have Eh := bU.out.cell 0 _ rfl; have Eg := bU.out.cell 1 _ rfl; clear aa J ah e7 bR bd bg bG aj fE))
     go_roundw
     case rel => exact ⟨k + 1, by omega, by go_num, by rw [HQ.out], au, bU, b4, bF, bM, cw, aw⟩
     case measure => simp [intOf]; omega
   | false =>
    rw [e0, Bool.false_and] at hsd
    have HQ := ak (show sx (fJ (b.attrs.take (k + 1)) a) = q by rw [tW b.attrs a k hka (by rw [hx]; exact hsd), hq])
    clear hx hx' hq hsd
    go_wp2_with (first
     | (refine ax (some 9) rfl rfl 76 rfl [.string ⟨#[]⟩, .string ⟨#[]⟩] (fun _ => by kernel_rfl) ?_; intro gV W1 J aa I; have cG := ge ae J; have ep := ne aI J; have kY := ne eO J; have j7 := ne bA J; have ah := mv I aI; have e7 := mv I eO; have bR := mv I bA; have bd := mv I aZ; have bg := mv I bl; have bG := ak (Kd.R_mono (ok' := fun k_ => k_ ≠ gV) (Kd.R_below (Kd.R_bound bL.out) I) (fun k_ bV e_ => by have h_ := bV.2.2.1; omega)); have aj := ak (ae.out.trans (I.mono ae.out.size)); have fE := ak (aa); clear J aa I aI eO bA aZ bl bL ae)
     | (refine aN rfl 76 (.tmp 9) (.tmp 22) rfl gV [.string (vc x).f0, .string (vc x).f1] rfl rfl 76 _ fE.out 2 (by kernel_rfl) rfl rfl (yM x) ?_; intro W2 aa J; have au := gx ah fE J; have bU := gn e7 kY J; have b4 := gx bR fE J; have bF := gr bd fE J; have bM := gr bg fE J; have cw := ak (Kd.R_mono (ok' := fun _ => True) (Kd.R_grown bG.out J (fun k_ bV e_ => bV (Option.some.inj e_))) (fun _ _ => trivial)); have aw := gb aj cG J; have dF := ak (aa); have mJ := aa.cell 0 _ rfl; have lB := aa.cell 1 _ rfl; have Eh := bU.out.cell 0 _ rfl; have Eg := bU.out.cell 1 _ rfl; clear aa J ah e7 bR bd bg bG aj fE))
    go_roundw
    case rel => exact ⟨k + 1, by omega, by go_num, by rw [HQ.out], au, bU, b4, bF, bM, cw, aw⟩
    case measure => simp [intOf]; omega
  ·obtain rfl : k = M.length := by omega
   have hkb : decide ((M.length : Int) < (M.length : Int)) = false := by simp
   rw [show b.attrs.take M.length = b.attrs from List.take_of_length_le (by rw [HML.out]; exact Nat.le_refl _)]
   cases hix : fJ b.attrs a with
   | some j =>
    obtain ⟨gs, rfl⟩ := nO aZ.out (by have := HL.out; omega)
    have HBS := ak (show b1 ≤ W.heap.size by
     have h1 := Kd.R_lt aZ.out gs rfl
     have h2 := Kd.R_base aZ.out gs rfl
     omega)
    have tS := cn
    have wo : gX ≠ gs := fun e_ => (aI.out.ne_row aZ.out (by decide)) (by rw [e_]; rfl)
    have Ef : gs ≠ gX := fun e_ => wo e_.symm
    have pi : ((i : Int) < (b.slots.length : Int)) = True := eq_true (by have := HL.out; omega)
    have HI := ak (show i < b.slots.length by have := HL.out; omega)
    have hji := tt hix
    have CB := ak (show ((en b.attrs a : Nat) : Int) = (j : Int) + 1 by unfold en; rw [hix]; show ((j + 1 : Nat) : Int) = _; omega)
    have xK := ak (show M = (ea b.attrs a).map vc by unfold ea; rw [hix]; exact xP.out)
    rw [show sx (some j) = (j : Int) from rfl]
    have Vn : j < 100 := by omega
    have hneg : decide ((j : Int) < 0) = false := decide_eq_false (by omega)
    clear hix
    have j5 := aI.out.cell 2 _ rfl
    have kJ := (ly aZ.out i HI.out).1
    have tu := (ly aZ.out i HI.out).2
    have Ix := aI.out.cell 3 _ rfl
    go_wp2_with fail
    generalize bW : W.setCell ⟨gs, i, none⟩ (.int .i64 ((j : Int) + 1)) = W1; have J : W.grownBy W1 (some gs) := (by rw [← bW]; exact (m0 aZ.out i HI.out ((j : Int) + 1)).2); have ah := ak (aI.out.grown J (aI.out.ne_row aZ.out (by decide))); have e7 := ak (eO.out.grown J (eO.out.ne_row aZ.out (by decide))); have bR := ak (bA.out.grown J (bA.out.ne_row aZ.out (by decide))); have bd := ak ((m0 aZ.out i HI.out ((j : Int) + 1)).1); have bg := ak (Kd.R_grown bl.out J (fun k_ bV => bV)); have bG := ak (Kd.R_over bL.out aZ.out (by decide) J); have aj := ak (ae.out.grown J ae.out.size (by intro k hk; cases hk; exact Nat.le_trans tS.out (Kd.R_base aZ.out gs rfl))); rw [bW] at bd; clear bW J aI eO bA aZ bl bL ae j5 kJ tu Ix
    obtain ⟨sl, hsl⟩ : ∃ sl, sl = b.slots.set i ((j : Int) + 1) := ⟨_, rfl⟩
    have HSL := ak (show (fH b i a).slots = sl by rw [hsl]; show b.slots.set i ((en b.attrs a : Nat) : Int) = _; rw [CB.out])
    have HSN := ak (show b.slots.length = sl.length by rw [hsl, List.length_set])
    rw [← hsl] at bd
    clear hsl
    obtain ⟨b2, eU⟩ : ∃ b2, b2 = W1.heap.size := ⟨_, rfl⟩
    have HS' := ak (Kd.R_mono (ok' := fun k => k < b2) (Kd.R_bound bd.out) (fun k hk => by have := hk.2.2.1; omega))
    have HF' := ak (Kd.R_mono (ok' := fun k => k < b2) (Kd.R_bound bg.out) (fun k hk => by have := hk.2.2.1; omega))
    have uU := ak (show b2 ≤ W1.heap.size by omega)
    have HWB := ak (show w.heap.size ≤ b2 by have := aj.out.size; omega)
    clear eU
    clear wo Ef pi
    go_loopw [10, 12, 48] (fun q _ u W => ∃ k : Nat, k ≤ b.free.length ∧ u = .int .i64 k ∧ Aside0 (aH W gX (dt b.addr b.aff (.slice (some ⟨gs, 0, none⟩) b.slots.length cs) (.slice Af b.free.length cf) (.slice Aa M.length ca)) 62) ∧ Aside0 (aH W gZ dM 62) ∧ Aside0 (Kd.R (Kd.int .i64) 3 W b1 (fun k => k < b2) (.slice (some ⟨gs, 0, none⟩) b.slots.length cs) sl) ∧ Aside0 (Kd.R (Kd.int .i64) 3 W b1 (fun k => k < b2) (.slice Af b.free.length cf) b.free) ∧ Aside0 (Kd.R hH 76 W b1 (fun _ => True) (.slice Aa M.length ca) M) ∧ Aside0 (Kd.R (Kd.int .i64) 3 W b2 (fun _ => True) q ((b.free.take k).filter (fS (i : Int)))) ∧ Aside0 (b2 ≤ W.heap.size) ∧ Aside0 (Below w.heap.size w W)) (fun _ _ u _ => b.free.length - (intOf u).toNat)
    case atStart => exact ⟨0, by omega, rfl, ah, bR, HS', HF', bG, ⟨Kd.R_nil _ _ _ _ _⟩, uU, aj⟩
    case round =>
     clear HS' HF' uU ah e7 bR bd bg bG aj
     obtain ⟨k, ou, rfl, aI, bA, aZ, bl, bL, g7, ik, ae⟩ := hrel
     obtain ⟨W, rfl⟩ : ∃ W : World, W = wr := ⟨_, rfl⟩
     have hfl := HFL.out
     by_cases hkm : k < b.free.length
     ·have hkb : decide ((k : Int) < (b.free.length : Int)) = true := by simp; omega
      obtain ⟨ad, eA, hx⟩ := Kd.at_int (Kd.R_reads' bl.out).2.2 k (by omega) (by omega)
      cases eA
      rw [Int.toNat_natCast] at hx
      have p1 : ((k : Int) < (b.free.length : Int)) = True := eq_true (by omega)
      have hrd : rd b.free k = b.free[k] := by simp [rd, List.getD, hkm]
      have hkt := zt b.free (i : Int) k hkm
      obtain ⟨x, hxx⟩ : ∃ x, x = b.free[k] := ⟨_, rfl⟩
      rw [← hxx] at hrd hkt
      rw [hrd] at hx
      obtain ⟨lk, hlk⟩ : ∃ lk, lk = (b.free.take k).filter (fS (i : Int)) := ⟨_, rfl⟩
      have HLL := ak (show lk.length ≤ 1000 by rw [hlk]; have h1 := List.length_filter_le (fS (i : Int)) (b.free.take k); rw [List.length_take] at h1; omega)
      rw [← hlk] at g7 hkt
      obtain ⟨Al, cl, rfl⟩ := Kd.R_slice g7.out
      cases hq : (x == (i : Int)) with
      | true =>
       have vT : (x != (i : Int)) = false := by rw [bne, hq]; rfl
       have HKT := ak (show (b.free.take (k + 1)).filter (fS (i : Int)) = lk by rw [hkt, hq]; simp)
       clear hrd hkt hxx hlk
       go_wp2_with fail
       go_roundw
       case rel => exact ⟨k + 1, by omega, by go_num, aI, bA, aZ, bl, bL, ⟨by rw [HKT.out]; exact g7.out⟩, ik, ae⟩
       case measure => simp [intOf]; omega
      | false =>
       have vT : (x != (i : Int)) = true := by rw [bne, hq]; rfl
       obtain ⟨l1, vV⟩ : ∃ l1, l1 = lk ++ [x] := ⟨_, rfl⟩
       have rT := ak vV
       have HKT := ak (show (b.free.take (k + 1)).filter (fS (i : Int)) = l1 by rw [hkt, hq, vV]; simp)
       clear hrd hkt hxx hlk vV
       go_wp2_with (first
        | ((with_reducible refine cC (b := .append) (xs := #[.tmp 55, .tmp 57]) rfl ?_); at_builtin; refine Kd.R_append (Kd.int .i64) (w0 := W) b2 rfl (.tmp 55) (.tmp 57) 31 3 (.int .i64 0) 8 rfl Try.underlying31 Bq rfl (by decide) (by omega) _ lk x [.int .i64 x] (fun _ => True) (fun _ => False) rfl rfl rfl (fun _ hk => hk.elim) (fun _ _ => trivial) g7.out (Below.refl _ _) ik.out (by have := HLL.out; omega) ?_; intro v_ W1 aU I J fu; rw [← rT.out] at aU; have ah := ak (aI.out.grown J (aI.out.ne_row g7.out (by decide))); have bR := ak (bA.out.grown J (bA.out.ne_row g7.out (by decide))); have bd := ak (vD aZ.out (fun _ h_ => h_) g7.out J); have bg := ak (vD bl.out (fun _ h_ => h_) g7.out J); have bG := ak (Kd.R_over bL.out g7.out (by decide) J); have tN := ak (aU); have iP := ak (Nat.le_trans ik.out J.size); have aj := ak (ae.out.trans (I.mono HWB.out)); obtain ⟨AL, cL, rfl⟩ := Kd.R_slice aU; clear aU I J fu aI bA aZ bl bL g7 ik ae))
       go_roundw
       case rel => exact ⟨k + 1, by omega, by go_num, ah, bR, bd, bg, bG, ⟨by rw [HKT.out]; exact tN.out⟩, iP, aj⟩
       case measure => simp [intOf]; omega
     ·obtain rfl : k = b.free.length := by omega
      have hkb : decide ((b.free.length : Int) < (b.free.length : Int)) = false := by simp
      rw [List.take_of_length_le (Nat.le_refl b.free.length)] at g7
      obtain ⟨lk, hlk⟩ : ∃ lk, lk = b.free.filter (fS (i : Int)) := ⟨_, rfl⟩
      rw [← hlk] at g7
      have HGB := ak (show fH b i a = ⟨b.addr, b.aff, sl, lk, ea b.attrs a⟩ by rw [hlk, ← HSL.out]; rfl)
      obtain ⟨Al, cl, rfl⟩ := Kd.R_slice g7.out
      clear hlk hfl
      have oF := aI.out.cell 3 _ rfl
      have G9 := aI.out.frozen 3
      go_wp2_with (first
       | ((with_reducible refine av (N := 62) rfl ?_); generalize bW : W.setCell ⟨gX, 3, none⟩ (.slice Al lk.length cl) = W1; have J : W.grownBy W1 (some gX) := (by rw [← bW]; exact bP _ _ _ _); have ah := ak (aI.out.set 3 (.slice Al lk.length cl)); have bR := gm bA aG J; have bd := gr aZ aI J; have bg := gr bl aI J; have bG := gr bL aI J; have tN := gr g7 aI J; have iP := ak (Nat.le_trans ik.out J.size); have aj := gb ae bS J; rw [bW] at ah; clear bW J aI bA aZ bl bL g7 ik ae oF G9; refine ay rfl 62 (.tmp 3) rfl gX rfl _ _ _ ah.out Try.underlying62 rfl 5 (by kernel_rfl) rfl ?_)
       | (refine aN rfl 62 (.tmp 6) (.tmp 62) rfl gZ (dt b.addr b.aff (.slice (some ⟨gs, 0, none⟩) b.slots.length cs) (.slice Al lk.length cl) (.slice Aa M.length ca)) rfl rfl 62 _ bR.out 5 (by kernel_rfl) rfl rfl (dO _ _ rfl rfl rfl) ?_; intro W2 aa J; have au := gn ah aG J; have b4 := ak (aa); have bF := gr bd bR J; have bM := gr bg bR J; have cw := gr bG bR J; have H6 := gr tN bR J; have cr := ak (Nat.le_trans iP.out J.size); have aw := gb aj bO J; clear aa J ah bR bd bg bG tN iP aj))
      refine bodyPost_ret (results_cell_row rfl _ _ gZ 62 _ (0, 0) _ rfl b4.out Try.underlying62 rfl (by kernel_rfl)) rfl ⟨_, rfl, ?_, aw.out⟩
      rw [HGB.out]
      refine ⟨_, _, _, rfl, ?_, ?_, ?_⟩
      ·exact Kd.R_lower (Kd.R_mono bF.out (fun _ _ => trivial)) cn.out
      ·exact Kd.R_lower H6.out HWB.out
      ·rw [← xK.out]; exact Kd.R_lower cw.out cn.out
   | none =>
    obtain ⟨gs, rfl⟩ := nO aZ.out (by have := HL.out; omega)
    have HBS := ak (show b1 ≤ W.heap.size by
     have h1 := Kd.R_lt aZ.out gs rfl
     have h2 := Kd.R_base aZ.out gs rfl
     omega)
    have tS := cn
    have wo : gX ≠ gs := fun e_ => (aI.out.ne_row aZ.out (by decide)) (by rw [e_]; rfl)
    have Ef : gs ≠ gX := fun e_ => wo e_.symm
    have pi : ((i : Int) < (b.slots.length : Int)) = True := eq_true (by have := HL.out; omega)
    have HI := ak (show i < b.slots.length by have := HL.out; omega)
    have CB := ak (show ((en b.attrs a : Nat) : Int) = (M.length : Int) + 1 by unfold en; rw [hix, HML.out]; show ((b.attrs.length + 1 : Nat) : Int) = _; omega)
    have uF : M ++ [vc a] = (ea b.attrs a).map vc := by unfold ea; rw [hix, List.map_append, ← xP.out]; rfl
    rw [show sx none = (-1 : Int) from rfl]
    clear hix
    have M8 := aI.out.cell 4 _ rfl
    have Eh := eO.out.cell 0 _ rfl
    have Eg := eO.out.cell 1 _ rfl
    obtain ⟨M1, BG⟩ : ∃ M1, M1 = M ++ [vc a] := ⟨_, rfl⟩
    have Jo := ak BG
    have xK := ak (show M1 = (ea b.attrs a).map vc by rw [BG, uF])
    clear BG uF
    go_wp2_with (first
     | ((with_reducible refine cC (b := .append) (xs := #[.tmp 34, .tmp 36]) rfl ?_); at_builtin; refine Kd.R_append hH (w0 := W) b1 rfl (.tmp 34) (.tmp 36) 49 76 (.agg #[.string ⟨#[]⟩, .string ⟨#[]⟩]) 32 rfl Try.underlying49 wk rfl (by decide) (by omega) _ M (vc a) [.string (vc a).f0, .string (vc a).f1] (fun _ => True) (fun _ => False) rfl rfl (yR _ _ _ _) (fun _ hk => hk.elim) (fun _ _ => trivial) bL.out (Below.refl _ _) HBS.out (by omega) ?_; intro v_ W1 aU I J fu; rw [← Jo.out] at aU; have ah := ak (aI.out.grown J (aI.out.ne_row bL.out (by decide))); have e7 := ak (eO.out.grown J (fun e_ => by have h_ := Kd.R_base bL.out _ e_.symm; have Ds := HGL.out; omega)); have bR := ak (bA.out.grown J (bA.out.ne_row bL.out (by decide))); have bd := ak (Kd.R_over aZ.out bL.out (by decide) J); have bg := ak (Kd.R_over bl.out bL.out (by decide) J); have bG := ak (aU); have aj := ak (ae.out.trans (I.mono cn.out)); obtain ⟨AM, cM, rfl⟩ := Kd.R_slice aU; have nI := ah.out.cell 4 _ rfl; have Bz := ah.out.frozen 4; have j5 := ah.out.cell 2 _ rfl; have Ix := ah.out.cell 3 _ rfl; have kJ := (ly bd.out i HI.out).1; have tu := (ly bd.out i HI.out).2; clear aU I J fu aI eO bA aZ bl bL ae M8 Eh Eg))
    generalize bW : W1.setCell ⟨gX, 4, none⟩ (.slice AM M1.length cM) = W2; have J : W1.grownBy W2 (some gX) := (by rw [← bW]; exact bP _ _ _ _); have au := ak (ah.out.set 4 (.slice AM M1.length cM)); have bU := gx e7 ah J; have b4 := gm bR aG J; have bF := gr bd ah J; have bM := gr bg ah J; have cw := gr bG ah J; have aw := gb aj bS J; rw [bW] at au; clear bW J ah e7 bR bd bg bG aj nI Bz j5 Ix kJ tu
    generalize bW : W2.setCell ⟨gs, i, none⟩ (.int .i64 ((M.length : Int) + 1)) = W3; have J : W2.grownBy W3 (some gs) := (by rw [← bW]; exact (m0 bF.out i HI.out ((M.length : Int) + 1)).2); have aA := ak (au.out.grown J (au.out.ne_row bF.out (by decide))); have cR := ak (bU.out.grown J (bU.out.ne_row bF.out (by decide))); have bQ := ak (b4.out.grown J (b4.out.ne_row bF.out (by decide))); have b6 := ak ((m0 bF.out i HI.out ((M.length : Int) + 1)).1); have cg := ak (Kd.R_grown bM.out J (fun k_ bV => bV)); have dq := ak (Kd.R_over cw.out bF.out (by decide) J); have aD := ak (aw.out.grown J aw.out.size (by intro k hk; cases hk; exact Nat.le_trans tS.out (Kd.R_base bF.out gs rfl))); rw [bW] at b6; clear bW J au bU b4 bF bM cw aw
    obtain ⟨sl, hsl⟩ : ∃ sl, sl = b.slots.set i ((M.length : Int) + 1) := ⟨_, rfl⟩
    have HSL := ak (show (fH b i a).slots = sl by rw [hsl]; show b.slots.set i ((en b.attrs a : Nat) : Int) = _; rw [CB.out])
    have HSN := ak (show b.slots.length = sl.length by rw [hsl, List.length_set])
    rw [← hsl] at b6
    clear hsl
    obtain ⟨b2, eU⟩ : ∃ b2, b2 = W3.heap.size := ⟨_, rfl⟩
    have HS' := ak (Kd.R_mono (ok' := fun k => k < b2) (Kd.R_bound b6.out) (fun k hk => by have := hk.2.2.1; omega))
    have HF' := ak (Kd.R_mono (ok' := fun k => k < b2) (Kd.R_bound cg.out) (fun k hk => by have := hk.2.2.1; omega))
    have uU := ak (show b2 ≤ W3.heap.size by omega)
    have HWB := ak (show w.heap.size ≤ b2 by have := aD.out.size; omega)
    clear eU
    clear wo Ef pi
    go_loopw [10, 12, 48] (fun q _ u W => ∃ k : Nat, k ≤ b.free.length ∧ u = .int .i64 k ∧ Aside0 (aH W gX (dt b.addr b.aff (.slice (some ⟨gs, 0, none⟩) b.slots.length cs) (.slice Af b.free.length cf) (.slice AM M1.length cM)) 62) ∧ Aside0 (aH W gZ dM 62) ∧ Aside0 (Kd.R (Kd.int .i64) 3 W b1 (fun k => k < b2) (.slice (some ⟨gs, 0, none⟩) b.slots.length cs) sl) ∧ Aside0 (Kd.R (Kd.int .i64) 3 W b1 (fun k => k < b2) (.slice Af b.free.length cf) b.free) ∧ Aside0 (Kd.R hH 76 W b1 (fun _ => True) (.slice AM M1.length cM) M1) ∧ Aside0 (Kd.R (Kd.int .i64) 3 W b2 (fun _ => True) q ((b.free.take k).filter (fS (i : Int)))) ∧ Aside0 (b2 ≤ W.heap.size) ∧ Aside0 (Below w.heap.size w W)) (fun _ _ u _ => b.free.length - (intOf u).toNat)
    case atStart => exact ⟨0, by omega, rfl, aA, bQ, HS', HF', dq, ⟨Kd.R_nil _ _ _ _ _⟩, uU, aD⟩
    case round =>
     clear HS' HF' uU aA cR bQ b6 cg dq aD
     obtain ⟨k, ou, rfl, aI, bA, aZ, bl, bL, g7, ik, ae⟩ := hrel
     obtain ⟨W, rfl⟩ : ∃ W : World, W = wr := ⟨_, rfl⟩
     have hfl := HFL.out
     by_cases hkm : k < b.free.length
     ·have hkb : decide ((k : Int) < (b.free.length : Int)) = true := by simp; omega
      obtain ⟨ad, eA, hx⟩ := Kd.at_int (Kd.R_reads' bl.out).2.2 k (by omega) (by omega)
      cases eA
      rw [Int.toNat_natCast] at hx
      have p1 : ((k : Int) < (b.free.length : Int)) = True := eq_true (by omega)
      have hrd : rd b.free k = b.free[k] := by simp [rd, List.getD, hkm]
      have hkt := zt b.free (i : Int) k hkm
      obtain ⟨x, hxx⟩ : ∃ x, x = b.free[k] := ⟨_, rfl⟩
      rw [← hxx] at hrd hkt
      rw [hrd] at hx
      obtain ⟨lk, hlk⟩ : ∃ lk, lk = (b.free.take k).filter (fS (i : Int)) := ⟨_, rfl⟩
      have HLL := ak (show lk.length ≤ 1000 by rw [hlk]; have h1 := List.length_filter_le (fS (i : Int)) (b.free.take k); rw [List.length_take] at h1; omega)
      rw [← hlk] at g7 hkt
      obtain ⟨Al, cl, rfl⟩ := Kd.R_slice g7.out
      cases hq : (x == (i : Int)) with
      | true =>
       have vT : (x != (i : Int)) = false := by rw [bne, hq]; rfl
       have HKT := ak (show (b.free.take (k + 1)).filter (fS (i : Int)) = lk by rw [hkt, hq]; simp)
       clear hrd hkt hxx hlk
       go_wp2_with fail
       go_roundw
       case rel => exact ⟨k + 1, by omega, by go_num, aI, bA, aZ, bl, bL, ⟨by rw [HKT.out]; exact g7.out⟩, ik, ae⟩
       case measure => simp [intOf]; omega
      | false =>
       have vT : (x != (i : Int)) = true := by rw [bne, hq]; rfl
       obtain ⟨l1, vV⟩ : ∃ l1, l1 = lk ++ [x] := ⟨_, rfl⟩
       have rT := ak vV
       have HKT := ak (show (b.free.take (k + 1)).filter (fS (i : Int)) = l1 by rw [hkt, hq, vV]; simp)
       clear hrd hkt hxx hlk vV
       go_wp2_with (first
        | ((with_reducible refine cC (b := .append) (xs := #[.tmp 55, .tmp 57]) rfl ?_); at_builtin; refine Kd.R_append (Kd.int .i64) (w0 := W) b2 rfl (.tmp 55) (.tmp 57) 31 3 (.int .i64 0) 8 rfl Try.underlying31 Bq rfl (by decide) (by omega) _ lk x [.int .i64 x] (fun _ => True) (fun _ => False) rfl rfl rfl (fun _ hk => hk.elim) (fun _ _ => trivial) g7.out (Below.refl _ _) ik.out (by have := HLL.out; omega) ?_; intro v_ W1 aU I J fu; rw [← rT.out] at aU; have ah := ak (aI.out.grown J (aI.out.ne_row g7.out (by decide))); have bR := ak (bA.out.grown J (bA.out.ne_row g7.out (by decide))); have bd := ak (vD aZ.out (fun _ h_ => h_) g7.out J); have bg := ak (vD bl.out (fun _ h_ => h_) g7.out J); have bG := ak (Kd.R_over bL.out g7.out (by decide) J); have tN := ak (aU); have iP := ak (Nat.le_trans ik.out J.size); have aj := ak (ae.out.trans (I.mono HWB.out)); obtain ⟨AL, cL, rfl⟩ := Kd.R_slice aU; clear aU I J fu aI bA aZ bl bL g7 ik ae))
       go_roundw
       case rel => exact ⟨k + 1, by omega, by go_num, ah, bR, bd, bg, bG, ⟨by rw [HKT.out]; exact tN.out⟩, iP, aj⟩
       case measure => simp [intOf]; omega
     ·obtain rfl : k = b.free.length := by omega
      have hkb : decide ((b.free.length : Int) < (b.free.length : Int)) = false := by simp
      rw [List.take_of_length_le (Nat.le_refl b.free.length)] at g7
      obtain ⟨lk, hlk⟩ : ∃ lk, lk = b.free.filter (fS (i : Int)) := ⟨_, rfl⟩
      rw [← hlk] at g7
      have HGB := ak (show fH b i a = ⟨b.addr, b.aff, sl, lk, ea b.attrs a⟩ by rw [hlk, ← HSL.out]; rfl)
      obtain ⟨Al, cl, rfl⟩ := Kd.R_slice g7.out
      clear hlk hfl
      have oF := aI.out.cell 3 _ rfl
      have G9 := aI.out.frozen 3
      go_wp2_with (first
       | ((with_reducible refine av (N := 62) rfl ?_); generalize bW : W.setCell ⟨gX, 3, none⟩ (.slice Al lk.length cl) = W1; have J : W.grownBy W1 (some gX) := (by rw [← bW]; exact bP _ _ _ _); have ah := ak (aI.out.set 3 (.slice Al lk.length cl)); have bR := gm bA aG J; have bd := gr aZ aI J; have bg := gr bl aI J; have bG := gr bL aI J; have tN := gr g7 aI J; have iP := ak (Nat.le_trans ik.out J.size); have aj := gb ae bS J; rw [bW] at ah; clear bW J aI bA aZ bl bL g7 ik ae oF G9; refine ay rfl 62 (.tmp 3) rfl gX rfl _ _ _ ah.out Try.underlying62 rfl 5 (by kernel_rfl) rfl ?_)
       | (refine aN rfl 62 (.tmp 6) (.tmp 62) rfl gZ (dt b.addr b.aff (.slice (some ⟨gs, 0, none⟩) b.slots.length cs) (.slice Al lk.length cl) (.slice AM M1.length cM)) rfl rfl 62 _ bR.out 5 (by kernel_rfl) rfl rfl (dO _ _ rfl rfl rfl) ?_; intro W2 aa J; have au := gn ah aG J; have b4 := ak (aa); have bF := gr bd bR J; have bM := gr bg bR J; have cw := gr bG bR J; have H6 := gr tN bR J; have cr := ak (Nat.le_trans iP.out J.size); have aw := gb aj bO J; clear aa J ah bR bd bg bG tN iP aj))
      refine bodyPost_ret (results_cell_row rfl _ _ gZ 62 _ (0, 0) _ rfl b4.out Try.underlying62 rfl (by kernel_rfl)) rfl ⟨_, rfl, ?_, aw.out⟩
      rw [HGB.out]
      refine ⟨_, _, _, rfl, ?_, ?_, ?_⟩
      ·exact Kd.R_lower (Kd.R_mono bF.out (fun _ _ => trivial)) cn.out
      ·exact Kd.R_lower H6.out HWB.out
      ·rw [← xK.out]; exact Kd.R_lower cw.out cn.out
end Go.Proofs.Ytemhalnhbgkbcaa.V
end

section
namespace Go.Proofs.Ytemhalnhbgkbcaa.V
def kV (k : Nat) (s : Int) : Int := if s > (k : Int) + 1 then s - 1 else s
def j6 (b : Bk) (k : Nat) : Bk := ⟨b.addr, b.aff, b.slots.map (kV k), b.free, b.attrs.take k ++ b.attrs.drop (k + 1)⟩
def mI (k : Nat) (l : List Int) (j : Nat) : List Int := (l.take j).map (kV k) ++ l.drop j
theorem Bf (k : Nat) (l : List Int) (j : Nat) (h : j < l.length) : rd (mI k l j) j = l[j] := by
 unfold mI rd
 have e : ((l.take j).map (kV k)).length = j := by rw [List.length_map, List.length_take]; omega
 rw [Int.toNat_natCast, List.getD_eq_getElem?_getD, List.getElem?_append_right (by omega), e, Nat.sub_self, List.getElem?_drop, Nat.add_zero, List.getElem?_eq_getElem h]
 rfl
theorem Be (k : Nat) (l : List Int) (j : Nat) (h : j < l.length) : (mI k l j).set j (kV k l[j]) = mI k l (j + 1) := by
 unfold mI
 have e : ((l.take j).map (kV k)).length = j := by rw [List.length_map, List.length_take]; omega
 rw [List.set_append, if_neg (by omega), e, Nat.sub_self, List.drop_eq_getElem_cons h, List.set_cons_zero, List.take_succ_eq_append_getElem h, List.map_append]
 simp
theorem zs (k : Nat) (l : List Int) (j : Nat) (h : j < l.length) (hs : kV k l[j] = l[j]) : mI k l (j + 1) = mI k l j := by
 unfold mI
 rw [List.take_succ_eq_append_getElem h, List.map_append, List.drop_eq_getElem_cons h]
 simp [hs]
theorem Bg (k : Nat) (l : List Int) : mI k l l.length = l.map (kV k) := by simp [mI]
def oT.T2 : Bool × List (List Nat × List Nat) := (true, [([], []), ([0], [0]), ([], []), ([1, 2], [1, 2]), ([], []), ([4], [4]), ([], []), ([6], [6]), ([5, 7], [5, 7]), ([3, 8], [3, 8]), ([0, 1, 2, 3, 4, 5, 6, 7, 8, 9], []), ([10, 9, 9, 0, 1, 2, 3, 4, 5, 6, 7, 8, 9], [9, 10])])
def oT.B2 : List Nat := [0, 1, 0, 7, 0, 16, 0, 64, 240, 511, 1023, 2047]
theorem oT.tab2 : dP .any (opsOf Try.f108 2) = oT.T2 := by kernel_rfl
theorem oT.bits2 : dr oT.T2.2 oT.B2 = true := by kernel_rfl
set_option maxHeartbeats 16000000 in
set_option maxRecDepth 100000 in
theorem Hn (b : Bk) (hl : b.slots.length = 64) (Pw : nN b.slots) (hf : b.free.length ≤ 5000) (ha : b.attrs.length ≤ 100) (k : Nat) (hk : k < b.attrs.length) (v : Value) (w : World) (h : jZ w v b) :
  Calls Try.prog 108 #[v, .int .i64 k] w fun e w' => ∃ v', e = .returned v' ∧ eM w' w.heap.size v' (j6 b k) ∧ Below w.heap.size w w' := by
 obtain ⟨M, Gt, F0, Gu, F3, Gv, F5, rfl, hr⟩ := h
 have xP := ak hr.m
 have hml : M.length = b.attrs.length := by rw [hr.m, List.length_map]
 have HR := ak hr
 have HL := ak hl
 have PI := ak Pw
 have Bu : M.length ≤ 100 := by omega
 have hkm : k < M.length := by omega
 have HCP := ak (fun w h => z9 b (by omega) hf M (by omega) Gt F0 Gu F3 Gv F5 w h)
 have ae := ak (Below.refl w.heap.size w)
 clear hr hl hml hf Pw
 go_enter Try.func108, Try.ntmps108
 go_wp2_with (first
  | (refine aE rfl 62 (.tmp 0) rfl _ rfl ?_; intro gX W1 J aa I; have bS := ge ae J; have aj := ak (ae.out.trans (I.mono ae.out.size)); have ah := ak (aa); clear J aa I ae)
  | (refine ax (some 4) rfl rfl 62 rfl dM (fun _ => by kernel_rfl) ?_; intro gZ W2 J aa I; have bO := ge aj J; have aG := ne ah J; have aw := mv I aj; have au := mv I ah; have b4 := ak (aa); clear J aa I aj ah)
  | ((with_reducible refine av (N := 7) rfl ?_); go_loud (refine ay rfl 62 (.tmp 2) rfl gX rfl _ _ _ au.out Try.underlying62 rfl 5 (by kernel_rfl) rfl ?_))
  | (go_at_call 85; go_loud (refine (HCP.out _ (HR.out.below aw.out)).mono ?_; rintro e W3 ⟨vs, vf, va, rfl, te, cV, dA, I⟩; obtain ⟨As, cs, rfl⟩ := Kd.R_slice te; obtain ⟨Af, cf, rfl⟩ := Kd.R_slice cV; obtain ⟨Aa, ca, rfl⟩ := Kd.R_slice dA; have HSZ := ak aw.out.size; have aD := mv I aw; have aA := mv I au; have bQ := mv I b4; have b6 := ak (te); have cg := ak (cV); have dq := ak (dA); have cE := ak (I.size); clear te cV dA I aw au b4))
  | (go_loud (refine aN rfl 62 (.tmp 2) (.tmp 8) rfl gX (dt b.addr b.aff (.slice As b.slots.length cs) (.slice Af b.free.length cf) (.slice Aa M.length ca)) rfl rfl 62 _ aA.out 5 (by kernel_rfl) rfl rfl (dO _ _ rfl rfl rfl) ?_; intro W4 aa J; have aW := gb aD bS J; have aV := ak (aa); have bb := gm bQ aG J; have cP := gr b6 aA J; have cd := gr cg aA J; have dw := gr dq aA J; have b5 := ak (Nat.le_trans cE.out J.size); clear aa J aD aA bQ b6 cg dq cE)))
 obtain ⟨b1, cA⟩ : ∃ b1, b1 = W2.heap.size := ⟨_, rfl⟩
 rw [← cA] at cP cd dw b5 HSZ
 have cn := ak (show w.heap.size ≤ b1 from HSZ.out)
 clear cA HSZ
 have ai : Below W4.heap.size W4 W4.drew := bp (Below.refl _ _)
 have bf := mv ai aW; have a9 := mv ai aV; have bu := mv ai bb; have cY := mv ai cP; have b8 := mv ai cd; have cQ := mv ai dw; have du := ak (Nat.le_trans b5.out ai.size)
 clear ai aW aV bb cP cd dw b5
 obtain ⟨gs, rfl⟩ := nO cY.out (by have := HL.out; omega)
 obtain ⟨ga, rfl⟩ := nO cQ.out (by omega)
 have hca : M.length ≤ ca := (Kd.R_reads' cQ.out).2.1
 have HTK := ak (Kd.R_take cQ.out (m := k) (by omega))
 have hdr := Kd.C_drop (m := k + 1) (Kd.R_reads' cQ.out).2.2 (by omega) hca
 rw [show (M.drop (k + 1)).length = M.length - (k + 1) from List.length_drop] at hdr
 have HDR := ak hdr
 have p1 : ((k : Int) ≤ (ca : Int)) = True := eq_true (by omega)
 have p2 : ((k : Int) + 1 ≤ (M.length : Int)) = True := eq_true (by omega)
 have p3 : ((k : Int) ≤ (k : Int) + 1) = True := eq_true (by omega)
 have p4 : ((0 : Int) ≤ (k : Int) + 1) = True := eq_true (by omega)
 have Vl : wrap64 ((k : Int) + 1) = (k : Int) + 1 := g8 _ (by omega) (by omega)
 clear hdr
 obtain ⟨M1, BG⟩ : ∃ M1, M1 = M.take k ++ M.drop (k + 1) := ⟨_, rfl⟩
 have Jo := ak BG
 have zK := ak (show M1 = (b.attrs.take k ++ b.attrs.drop (k + 1)).map vc by rw [BG, xP.out, List.map_append, List.map_take, List.map_drop])
 clear BG
 by_cases hne : ca = k + 1
 ·subst hne
  have h_ := HDR.out
  rw [if_pos rfl, show M.length - (k + 1) = 0 by omega] at h_
  have H7 := ak h_
  clear h_
  refine da (n := 12) (S := fun w' => w'.cell? ⟨gX, 4, none⟩ = some (.slice (some ⟨ga, 0, none⟩) M.length (k + 1))) (ds := [11]) #[false, false, false, false, false, false, false, false, false, false, false, false] (by kernel_rfl) rfl rfl (a9.out.cell 4 _ rfl) (fun hHeld => ?_); refine bK oT.tab2 oT.bits2 (fun ab bq => ?_)
  refine pu 0 ab.out ?_
  refine tk 1 ab.out bq.out hHeld ?_
  refine pu 2 ab.out ?_
  refine pu 3 ab.out ?_
  refine pu 4 ab.out ?_
  refine tk 5 ab.out bq.out hHeld ?_
  refine pu 6 ab.out ?_
  refine pu 7 ab.out ?_
  refine pu 8 ab.out ?_
  refine on 9 ab.out (fun K hK => ?_)
  refine Kd.R_append_rows_step hH (Rr := hH.K _) (w0 := W4.drew) b1 (by rfl) (.tmp 12) (.tmp 17) 49 76 (.agg #[.string ⟨#[]⟩, .string ⟨#[]⟩]) 32 rfl Try.underlying49 wk rfl (by decide) (by omega) (.slice (some ⟨ga, 0, none⟩) k (k + 1)) (M.take k) (M.drop (k + 1)) (some ⟨ga, 0, none⟩) 0 0 (fun _ => True) (fun _ => False) rfl rfl HTK.out H7.out (fun x cs aa => by rw [wj aa]; exact yR _ _ _ _) (fun _ h_ => h_.elim) (fun _ _ => trivial) (Below.refl _ _) du.out (by rw [List.length_take]; omega) ?_
  intro v_ V1 aU I J fu
  replace J : W4.drew.grownBy V1 (Value.slice (some ⟨ga, 0, none⟩) M.length (k + 1)).ownBlock := J
  rw [← Jo.out] at aU
  have bD := ak (bf.out.trans (I.mono cn.out)); have bj := ak (a9.out.grown J (a9.out.ne_row cQ.out (by decide))); have bT := ak (bu.out.grown J (bu.out.ne_row cQ.out (by decide))); have dm := ak (Kd.R_over cY.out cQ.out (by decide) J); have cI := ak (Kd.R_over b8.out cQ.out (by decide) J); have dU := ak (aU); have cN := ak (Nat.le_trans du.out J.size)
  obtain ⟨AM, cM, rfl⟩ := Kd.R_slice aU
  clear aU I J fu bf a9 bu cY b8 cQ du
  refine kn hK (bj.out.cell 4 _ rfl) (fun hHeld => ?_)
  clear hK K
  refine pu 10 ab.out ?_
  refine ra (i := 11) (N := none) #[true, true, true, true, true, true, true, true, true, true, true, true] rfl rfl (mT ab.out (by kernel_rfl)) (by decide) (fun K hK => ?_)
  have Bz := bj.out.frozen 4; have nI := bj.out.cell 4 _ rfl
  refine pI (w1 := ?_) (by rfl) rfl ?_ ?_
  rotate_left
  ·go_simp
   rfl
  refine hK.out _ _ ?_
  clear hK K
  refine dn ab.out ?_
  clear Bz nI hHeld
  generalize bW : V1.setCell ⟨gX, 4, none⟩ (.slice AM M1.length cM) = W7; have J : V1.grownBy W7 (some gX) := (by rw [← bW]; exact bP _ _ _ _); have dR := gb bD bS J; have df := ak (bj.out.set 4 (.slice AM M1.length cM)); have dI := gm bT aG J; have fQ := gr dm bj J; have eS := gr cI bj J; have jJ := gr dU bj J; have iO := ak (Nat.le_trans cN.out J.size); rw [bW] at df; clear bW J bD bj bT dm cI dU cN
  have tS := cn
  have j5 := df.out.cell 2 _ rfl
  go_wp2_with fail
  clear j5
  go_loopw [5, 6, 23] (fun _ _ u W => ∃ j : Nat, j ≤ 64 ∧ u = .int .i64 j ∧ Aside0 (aH W gX (dt b.addr b.aff (.slice (some ⟨gs, 0, none⟩) b.slots.length cs) (.slice Af b.free.length cf) (.slice AM M1.length cM)) 62) ∧ Aside0 (aH W gZ dM 62) ∧ Aside0 (Kd.R (Kd.int .i64) 3 W b1 (fun k => some k ≠ (Value.slice Af b.free.length cf).ownBlock) (.slice (some ⟨gs, 0, none⟩) b.slots.length cs) (mI k b.slots j)) ∧ Aside0 (Kd.R (Kd.int .i64) 3 W b1 (fun k => some k ≠ (Value.slice (some ⟨gs, 0, none⟩) b.slots.length cs).ownBlock) (.slice Af b.free.length cf) b.free) ∧ Aside0 (Kd.R hH 76 W b1 (fun _ => True) (.slice AM M1.length cM) M1) ∧ Aside0 (Below w.heap.size w W)) (fun _ _ u _ => 64 - (intOf u).toNat)
  case atStart => exact ⟨0, by omega, rfl, df, dI, fQ, eS, jJ, dR⟩
  case round =>
   clear dR df dI fQ eS jJ iO
   obtain ⟨j, hj, rfl, aI, bA, aZ, bl, bL, ae⟩ := hrel
   obtain ⟨W, rfl⟩ : ∃ W : World, W = wr := ⟨_, rfl⟩
   by_cases hjn : j < 64
   ·have hkb : decide ((j : Int) < (b.slots.length : Int)) = true := by rw [HL.out]; simp; omega
    have hjl : j < b.slots.length := by rw [HL.out]; exact hjn
    have hcl := ly aZ.out j hjl
    rw [Bf k b.slots j hjl] at hcl
    have hms := PI.out _ (List.getElem_mem hjl)
    have hst := Be k b.slots j hjl
    have hsm := zs k b.slots j hjl
    obtain ⟨m, hm⟩ : ∃ m : Nat, b.slots[j] = (m : Int) := ⟨(b.slots[j]).toNat, by omega⟩
    rw [hm] at hcl hms hst hsm
    have kJ := hcl.1
    have pj : ((j : Int) < (b.slots.length : Int)) = True := eq_true (by omega)
    have j5 := aI.out.cell 2 _ rfl
    have tf := hms.2
    by_cases hgt : (m : Int) > (k : Int) + 1
    ·have tu := hcl.2
     have HST := ak (show (mI k b.slots j).set j ((m : Int) - 1) = mI k b.slots (j + 1) by rw [← hst]; congr 1; unfold kV; rw [if_pos hgt])
     have HJL := ak hjl
     clear hcl hst hsm hms hm
     go_wp2_with fail
     generalize bW : W.setCell ⟨gs, j, none⟩ (.int .i64 ((m : Int) - 1)) = W1; have J : W.grownBy W1 (some gs) := (by rw [← bW]; exact (m0 aZ.out j HJL.out ((m : Int) - 1)).2); have ah := ak (aI.out.grown J (aI.out.ne_row aZ.out (by decide))); have bR := ak (bA.out.grown J (bA.out.ne_row aZ.out (by decide))); have bd := ak ((m0 aZ.out j HJL.out ((m : Int) - 1)).1); have bg := ak (Kd.R_grown bl.out J (fun k_ bV => bV)); have bG := ak (Kd.R_over bL.out aZ.out (by decide) J); have aj := ak (ae.out.grown J ae.out.size (by intro k hk; cases hk; exact Nat.le_trans tS.out (Kd.R_base aZ.out gs rfl))); rw [bW] at bd; clear bW J aI bA aZ bl bL ae kJ tu j5
     rw [HST.out] at bd
     go_roundw
     case rel => exact ⟨j + 1, by omega, by go_num, ah, bR, bd, bg, bG, aj⟩
     case measure => simp [intOf]; omega
    ·have HST := ak (hsm (by unfold kV; rw [if_neg hgt]))
     clear hcl hst hsm hms hm
     go_wp2_with fail
     go_roundw
     case rel => exact ⟨j + 1, by omega, by go_num, aI, bA, ⟨by rw [HST.out]; exact aZ.out⟩, bl, bL, ae⟩
     case measure => simp [intOf]; omega
   ·obtain rfl : j = 64 := by omega
    rw [show ((64 : Nat) : Int) = (64 : Int) from rfl]
    have hkb : decide ((64 : Int) < (b.slots.length : Int)) = false := by rw [HL.out]; decide
    have hall := Bg k b.slots
    rw [HL.out] at hall
    rw [hall] at aZ
    have HSN := ak (show b.slots.length = (b.slots.map (kV k)).length by rw [List.length_map])
    clear hall
    go_wp2_with (first
     | ((with_reducible refine av (N := 39) rfl ?_); go_loud (refine ay rfl 62 (.tmp 2) rfl gX rfl _ _ _ aI.out Try.underlying62 rfl 5 (by kernel_rfl) rfl ?_))
     | (go_loud (refine aN rfl 62 (.tmp 4) (.tmp 39) rfl gZ (dt b.addr b.aff (.slice (some ⟨gs, 0, none⟩) b.slots.length cs) (.slice Af b.free.length cf) (.slice AM M1.length cM)) rfl rfl 62 _ bA.out 5 (by kernel_rfl) rfl rfl (dO _ _ rfl rfl rfl) ?_; intro W1 aa J; have ah := gn aI aG J; have bR := ak (aa); have bd := gr aZ bA J; have bg := gr bl bA J; have bG := gr bL bA J; have aj := gb ae bO J; clear aa J aI bA aZ bl bL ae)))
    refine bodyPost_ret (results_cell_row rfl _ _ gZ 62 _ (0, 0) _ rfl bR.out Try.underlying62 rfl (by kernel_rfl)) rfl ⟨_, rfl, ⟨_, _, _, rfl, ?_, ?_, ?_⟩, aj.out⟩
    ·exact Kd.R_lower (Kd.R_mono bd.out (fun _ _ => trivial)) cn.out
    ·exact Kd.R_lower (Kd.R_mono bg.out (fun _ _ => trivial)) cn.out
    ·show Kd.R _ _ _ _ _ _ ((b.attrs.take k ++ b.attrs.drop (k + 1)).map vc)
     rw [← zK.out]
     exact Kd.R_lower bG.out cn.out
 ·have h_ := HDR.out
  rw [if_neg hne] at h_
  have e_ : (some (⟨ga, 0, none⟩ : Addr)).map (fun x => x.add ((k + 1) * hH.sz)) = some ⟨ga, (k + 1) * 2, none⟩ := by
   rw [Option.map_some, add_plain]
   rfl
  rw [e_] at h_
  clear e_
  have H7 := ak h_
  clear h_
  refine da (n := 12) (S := fun w' => w'.cell? ⟨gX, 4, none⟩ = some (.slice (some ⟨ga, 0, none⟩) M.length ca)) (ds := [11]) #[false, false, false, false, false, false, false, false, false, false, false, false] (by kernel_rfl) rfl rfl (a9.out.cell 4 _ rfl) (fun hHeld => ?_); refine bK oT.tab2 oT.bits2 (fun ab bq => ?_)
  refine pu 0 ab.out ?_
  refine tk 1 ab.out bq.out hHeld ?_
  refine pu 2 ab.out ?_
  refine pu 3 ab.out ?_
  refine pu 4 ab.out ?_
  refine tk 5 ab.out bq.out hHeld ?_
  refine pu 6 ab.out ?_
  refine pu 7 ab.out ?_
  refine pu 8 ab.out ?_
  refine on 9 ab.out (fun K hK => ?_)
  refine Kd.R_append_rows_step hH (Rr := hH.K _) (w0 := W4.drew) b1 (by rfl) (.tmp 12) (.tmp 17) 49 76 (.agg #[.string ⟨#[]⟩, .string ⟨#[]⟩]) 32 rfl Try.underlying49 wk rfl (by decide) (by omega) (.slice (some ⟨ga, 0, none⟩) k ca) (M.take k) (M.drop (k + 1)) (some ⟨ga, (k + 1) * 2, none⟩) (M.length - (k + 1)) (ca - (k + 1)) (fun _ => True) (fun _ => False) rfl rfl HTK.out H7.out (fun x cs aa => by rw [wj aa]; exact yR _ _ _ _) (fun _ h_ => h_.elim) (fun _ _ => trivial) (Below.refl _ _) du.out (by rw [List.length_take]; omega) ?_
  intro v_ V1 aU I J fu
  replace J : W4.drew.grownBy V1 (Value.slice (some ⟨ga, 0, none⟩) M.length ca).ownBlock := J
  rw [← Jo.out] at aU
  have bD := ak (bf.out.trans (I.mono cn.out)); have bj := ak (a9.out.grown J (a9.out.ne_row cQ.out (by decide))); have bT := ak (bu.out.grown J (bu.out.ne_row cQ.out (by decide))); have dm := ak (Kd.R_over cY.out cQ.out (by decide) J); have cI := ak (Kd.R_over b8.out cQ.out (by decide) J); have dU := ak (aU); have cN := ak (Nat.le_trans du.out J.size)
  obtain ⟨AM, cM, rfl⟩ := Kd.R_slice aU
  clear aU I J fu bf a9 bu cY b8 cQ du
  refine kn hK (bj.out.cell 4 _ rfl) (fun hHeld => ?_)
  clear hK K
  refine pu 10 ab.out ?_
  refine ra (i := 11) (N := none) #[true, true, true, true, true, true, true, true, true, true, true, true] rfl rfl (mT ab.out (by kernel_rfl)) (by decide) (fun K hK => ?_)
  have Bz := bj.out.frozen 4; have nI := bj.out.cell 4 _ rfl
  refine pI (w1 := ?_) (by rfl) rfl ?_ ?_
  rotate_left
  ·go_simp
   rfl
  refine hK.out _ _ ?_
  clear hK K
  refine dn ab.out ?_
  clear Bz nI hHeld
  generalize bW : V1.setCell ⟨gX, 4, none⟩ (.slice AM M1.length cM) = W7; have J : V1.grownBy W7 (some gX) := (by rw [← bW]; exact bP _ _ _ _); have dR := gb bD bS J; have df := ak (bj.out.set 4 (.slice AM M1.length cM)); have dI := gm bT aG J; have fQ := gr dm bj J; have eS := gr cI bj J; have jJ := gr dU bj J; have iO := ak (Nat.le_trans cN.out J.size); rw [bW] at df; clear bW J bD bj bT dm cI dU cN
  have tS := cn
  have j5 := df.out.cell 2 _ rfl
  go_wp2_with fail
  clear j5
  go_loopw [5, 6, 23] (fun _ _ u W => ∃ j : Nat, j ≤ 64 ∧ u = .int .i64 j ∧ Aside0 (aH W gX (dt b.addr b.aff (.slice (some ⟨gs, 0, none⟩) b.slots.length cs) (.slice Af b.free.length cf) (.slice AM M1.length cM)) 62) ∧ Aside0 (aH W gZ dM 62) ∧ Aside0 (Kd.R (Kd.int .i64) 3 W b1 (fun k => some k ≠ (Value.slice Af b.free.length cf).ownBlock) (.slice (some ⟨gs, 0, none⟩) b.slots.length cs) (mI k b.slots j)) ∧ Aside0 (Kd.R (Kd.int .i64) 3 W b1 (fun k => some k ≠ (Value.slice (some ⟨gs, 0, none⟩) b.slots.length cs).ownBlock) (.slice Af b.free.length cf) b.free) ∧ Aside0 (Kd.R hH 76 W b1 (fun _ => True) (.slice AM M1.length cM) M1) ∧ Aside0 (Below w.heap.size w W)) (fun _ _ u _ => 64 - (intOf u).toNat)
  case atStart => exact ⟨0, by omega, rfl, df, dI, fQ, eS, jJ, dR⟩
  case round =>
   clear dR df dI fQ eS jJ iO
   obtain ⟨j, hj, rfl, aI, bA, aZ, bl, bL, ae⟩ := hrel
   obtain ⟨W, rfl⟩ : ∃ W : World, W = wr := ⟨_, rfl⟩
   by_cases hjn : j < 64
   ·have hkb : decide ((j : Int) < (b.slots.length : Int)) = true := by rw [HL.out]; simp; omega
    have hjl : j < b.slots.length := by rw [HL.out]; exact hjn
    have hcl := ly aZ.out j hjl
    rw [Bf k b.slots j hjl] at hcl
    have hms := PI.out _ (List.getElem_mem hjl)
    have hst := Be k b.slots j hjl
    have hsm := zs k b.slots j hjl
    obtain ⟨m, hm⟩ : ∃ m : Nat, b.slots[j] = (m : Int) := ⟨(b.slots[j]).toNat, by omega⟩
    rw [hm] at hcl hms hst hsm
    have kJ := hcl.1
    have pj : ((j : Int) < (b.slots.length : Int)) = True := eq_true (by omega)
    have j5 := aI.out.cell 2 _ rfl
    have tf := hms.2
    by_cases hgt : (m : Int) > (k : Int) + 1
    ·have tu := hcl.2
     have HST := ak (show (mI k b.slots j).set j ((m : Int) - 1) = mI k b.slots (j + 1) by rw [← hst]; congr 1; unfold kV; rw [if_pos hgt])
     have HJL := ak hjl
     clear hcl hst hsm hms hm
     go_wp2_with fail
     generalize bW : W.setCell ⟨gs, j, none⟩ (.int .i64 ((m : Int) - 1)) = W1; have J : W.grownBy W1 (some gs) := (by rw [← bW]; exact (m0 aZ.out j HJL.out ((m : Int) - 1)).2); have ah := ak (aI.out.grown J (aI.out.ne_row aZ.out (by decide))); have bR := ak (bA.out.grown J (bA.out.ne_row aZ.out (by decide))); have bd := ak ((m0 aZ.out j HJL.out ((m : Int) - 1)).1); have bg := ak (Kd.R_grown bl.out J (fun k_ bV => bV)); have bG := ak (Kd.R_over bL.out aZ.out (by decide) J); have aj := ak (ae.out.grown J ae.out.size (by intro k hk; cases hk; exact Nat.le_trans tS.out (Kd.R_base aZ.out gs rfl))); rw [bW] at bd; clear bW J aI bA aZ bl bL ae kJ tu j5
     rw [HST.out] at bd
     go_roundw
     case rel => exact ⟨j + 1, by omega, by go_num, ah, bR, bd, bg, bG, aj⟩
     case measure => simp [intOf]; omega
    ·have HST := ak (hsm (by unfold kV; rw [if_neg hgt]))
     clear hcl hst hsm hms hm
     go_wp2_with fail
     go_roundw
     case rel => exact ⟨j + 1, by omega, by go_num, aI, bA, ⟨by rw [HST.out]; exact aZ.out⟩, bl, bL, ae⟩
     case measure => simp [intOf]; omega
   ·obtain rfl : j = 64 := by omega
    rw [show ((64 : Nat) : Int) = (64 : Int) from rfl]
    have hkb : decide ((64 : Int) < (b.slots.length : Int)) = false := by rw [HL.out]; decide
    have hall := Bg k b.slots
    rw [HL.out] at hall
    rw [hall] at aZ
    have HSN := ak (show b.slots.length = (b.slots.map (kV k)).length by rw [List.length_map])
    clear hall
    go_wp2_with (first
     | ((with_reducible refine av (N := 39) rfl ?_); go_loud (refine ay rfl 62 (.tmp 2) rfl gX rfl _ _ _ aI.out Try.underlying62 rfl 5 (by kernel_rfl) rfl ?_))
     | (go_loud (refine aN rfl 62 (.tmp 4) (.tmp 39) rfl gZ (dt b.addr b.aff (.slice (some ⟨gs, 0, none⟩) b.slots.length cs) (.slice Af b.free.length cf) (.slice AM M1.length cM)) rfl rfl 62 _ bA.out 5 (by kernel_rfl) rfl rfl (dO _ _ rfl rfl rfl) ?_; intro W1 aa J; have ah := gn aI aG J; have bR := ak (aa); have bd := gr aZ bA J; have bg := gr bl bA J; have bG := gr bL bA J; have aj := gb ae bO J; clear aa J aI bA aZ bl bL ae)))
    refine bodyPost_ret (results_cell_row rfl _ _ gZ 62 _ (0, 0) _ rfl bR.out Try.underlying62 rfl (by kernel_rfl)) rfl ⟨_, rfl, ⟨_, _, _, rfl, ?_, ?_, ?_⟩, aj.out⟩
    ·exact Kd.R_lower (Kd.R_mono bd.out (fun _ _ => trivial)) cn.out
    ·exact Kd.R_lower (Kd.R_mono bg.out (fun _ _ => trivial)) cn.out
    ·show Kd.R _ _ _ _ _ _ ((b.attrs.take k ++ b.attrs.drop (k + 1)).map vc)
     rw [← zK.out]
     exact Kd.R_lower bG.out cn.out
end Go.Proofs.Ytemhalnhbgkbcaa.V
end

section
namespace Go.Proofs.Ytemhalnhbgkbcaa.V
attribute [local go_sem] eH eF fk fj ei eh eG eE
def fA.f (br : Int) (bB : ByteArray) (bI : List Int) (cJ : List Int) (bH : List (S76)) (a1 : Int) : Option (Bool) := some (((a1 - (Int.tmod a1 64)) % 4294967296) == br)
set_option maxHeartbeats 8000000 in
set_option maxRecDepth 100000 in
theorem fA.calls (br : Int) (bB : ByteArray) (fv : Option Addr) (fp : Nat) (bI : List Int) (eY : Option Addr) (eW : Nat) (cJ : List Int) (eK : Option Addr) (eB : Nat) (bH : List (S76)) (a1 : Int) (r : Bool) (w : World) (rf : Kd.C (Kd.int .i64) w fv bI.length bI) (rn : bI.length ≤ fp) (re : Kd.C (Kd.int .i64) w eY cJ.length cJ) (rm : cJ.length ≤ eW) (rb : Kd.C hH w eK bH.length bH) (rl : bH.length ≤ eB) (h : fA.f br bB bI cJ bH a1 = some r) :
  Calls Try.prog 100 #[.agg #[.int .u32 br, .string bB, .slice fv bI.length fp, .slice eY cJ.length eW, .slice eK bH.length eB], .int .u32 a1] w fun e w' => e = .returned (.bool r) ∧ Below w.heap.size w w' := by
 have G3 := Try.underlying62
 have pT := ak rf
 have yz := ak rn
 clear rf rn
 have vF := ak re
 have yy := ak rm
 clear re rm
 have tJ := ak rb
 have yx := ak rl
 clear rb rl
 have HB := ak (Below.refl w.heap.size w)
 have H : (some (((a1 - (Int.tmod a1 64)) % 4294967296) == br)) = some r := h
 clear h
 obtain rfl := Option.some.inj H
 go_enter Try.func100, Try.ntmps100
 go_wp2_with (first | ((with_reducible refine av (N := 2) rfl ?_); refine fb ?hg (N := 2) ?hd (cs := #[.int .u32 br, .string bB, .slice fv bI.length fp, .slice eY cJ.length eW, .slice eK bH.length eB]) (t := 62) ?hr ?_; (case hd => rfl); (case hg => rfl); (case hr => first | (go_simp; done) | (go_simp; rfl)); intro m8 hg w3 hbox hb; have cD := ak (bE (by repeat (first | (with_reducible first | exact HB.out | apply al | apply af | apply aq) | exact HB.out)) hb); have cT := ak (hbox); have dk := ak ((by rw [hg]; exact (bs (by repeat (first | (with_reducible first | exact HB.out | apply al | apply af | apply aq) | exact HB.out))) : w.heap.size ≤ m8)); have dS := ak ((by rw [hg]; exact (bs (by repeat (first | (with_reducible first | exact HB.out | apply al | apply af | apply aq) | exact HB.out))) : w.heap.size ≤ m8)); clear HB; have HB := cD; have kE := cT; have QD := dk; have H8 := dS; clear cD cT dk dS; clear hb hbox hg; have Tt : w3.cell? ⟨m8, 0, none⟩ = some (.int .u32 br) := (aC kE.out 0).trans rfl; have Ts : w3.cell? ⟨m8, 1, none⟩ = some (.string bB) := (aC kE.out 1).trans rfl; have Tr : w3.cell? ⟨m8, 2, none⟩ = some (.slice fv bI.length fp) := (aC kE.out 2).trans rfl; have Tq : w3.cell? ⟨m8, 3, none⟩ = some (.slice eY cJ.length eW) := (aC kE.out 3).trans rfl; have Tp : w3.cell? ⟨m8, 4, none⟩ = some (.slice eK bH.length eB) := (aC kE.out 4).trans rfl; have Tf := ao kE.out 0; have Te := ao kE.out 1; have Td := ao kE.out 2; have Tc := ao kE.out 3; have Tb := ao kE.out 4))
 go_ret
 exact ⟨by first | rfl | (simp [cy, cx] <;> rfl) | (simp [*, cy, cx] <;> rfl), by repeat (first | (with_reducible first | exact HB.out | apply al | apply af | apply aq | refine aQ ?_ H8.out) | exact HB.out)⟩
end Go.Proofs.Ytemhalnhbgkbcaa.V
end

section
namespace Go.Proofs.Ytemhalnhbgkbcaa.V
attribute [local go_sem] eH eF fk fj ei eh eG eE
def ek.f (br : Int) (bB : ByteArray) (bI : List Int) (cJ : List Int) (bH : List (S76)) (a1 : Int) : Option (ByteArray × ByteArray × Bool) := (fA.f br bB bI cJ bH a1).bind fun sK => (if sK = true then (if 0 ≤ (Int.tmod a1 64) then (if (Int.tmod a1 64) < (bI.length : Int) then (if (rd bI (Int.tmod a1 64)) = 0 then (some ((⟨#[]⟩ : ByteArray), (⟨#[]⟩ : ByteArray), false)) else (if 0 ≤ (wrap64 ((rd bI (Int.tmod a1 64)) - 1)) then (if (wrap64 ((rd bI (Int.tmod a1 64)) - 1)) < (bH.length : Int) then (some ((fG bH (wrap64 ((rd bI (Int.tmod a1 64)) - 1))).f0, (fG bH (wrap64 ((rd bI (Int.tmod a1 64)) - 1))).f1, true)) else (none)) else (none))) else (none)) else (none)) else (some ((⟨#[]⟩ : ByteArray), (⟨#[]⟩ : ByteArray), false)))
def ek.T3 : Bool × List (List Nat × List Nat) := (true, [([], []), ([0], [0]), ([], []), ([2], [2]), ([], []), ([4], [4]), ([3, 5], [3, 5]), ([6], [6]), ([7], [7]), ([1, 8], [1, 8]), ([9], [9]), ([10, 0, 1, 2, 3, 4, 5, 6, 7, 8, 9, 10], [10]), ([11, 0, 1, 2, 3, 4, 5, 6, 7, 8, 9, 10, 11], [])])
def ek.B3 : List Nat := [0, 1, 0, 4, 0, 16, 60, 124, 252, 511, 1023, 2047, 4095]
theorem ek.tab3 : dP .any (opsOf Try.f62 3) = ek.T3 := by kernel_rfl
theorem ek.bits3 : dr ek.T3.2 ek.B3 = true := by kernel_rfl
set_option maxHeartbeats 8000000 in
set_option maxRecDepth 100000 in
theorem ek.calls (br : Int) (bB : ByteArray) (fv : Option Addr) (fp : Nat) (bI : List Int) (eY : Option Addr) (eW : Nat) (cJ : List Int) (eK : Option Addr) (eB : Nat) (bH : List (S76)) (a1 : Int) (r1 : ByteArray) (r2 : ByteArray) (r3 : Bool) (w : World) (rf : Kd.C (Kd.int .i64) w fv bI.length bI) (rn : bI.length ≤ fp) (re : Kd.C (Kd.int .i64) w eY cJ.length cJ) (rm : cJ.length ≤ eW) (rb : Kd.C hH w eK bH.length bH) (rl : bH.length ≤ eB) (h : ek.f br bB bI cJ bH a1 = some (r1, r2, r3)) :
  Calls Try.prog 62 #[.agg #[.int .u32 br, .string bB, .slice fv bI.length fp, .slice eY cJ.length eW, .slice eK bH.length eB], .int .u32 a1] w fun e w' => e = .returned (.tuple #[.agg #[.string r1, .string r2], .bool r3]) ∧ Below w.heap.size w w' := by
 have G3 := Try.underlying62
 have MN := Try.underlying76
 have pT := ak rf
 have yz := ak rn
 clear rf rn
 have vF := ak re
 have yy := ak rm
 clear re rm
 have tJ := ak rb
 have yx := ak rl
 clear rb rl
 have HB := ak (Below.refl w.heap.size w)
 have H : ((fA.f br bB bI cJ bH a1).bind fun sK => (if sK = true then (if 0 ≤ (Int.tmod a1 64) then (if (Int.tmod a1 64) < (bI.length : Int) then (if (rd bI (Int.tmod a1 64)) = 0 then (some ((⟨#[]⟩ : ByteArray), (⟨#[]⟩ : ByteArray), false)) else (if 0 ≤ (wrap64 ((rd bI (Int.tmod a1 64)) - 1)) then (if (wrap64 ((rd bI (Int.tmod a1 64)) - 1)) < (bH.length : Int) then (some ((fG bH (wrap64 ((rd bI (Int.tmod a1 64)) - 1))).f0, (fG bH (wrap64 ((rd bI (Int.tmod a1 64)) - 1))).f1, true)) else (none)) else (none))) else (none)) else (none)) else (some ((⟨#[]⟩ : ByteArray), (⟨#[]⟩ : ByteArray), false)))) = some (r1, r2, r3) := h
 clear h
 replace H := Option.bind_eq_some_iff.mp H
 obtain ⟨sK, sn, H⟩ := H
 replace H : (if sK = true then (if 0 ≤ (Int.tmod a1 64) then (if (Int.tmod a1 64) < (bI.length : Int) then (if (rd bI (Int.tmod a1 64)) = 0 then (some ((⟨#[]⟩ : ByteArray), (⟨#[]⟩ : ByteArray), false)) else (if 0 ≤ (wrap64 ((rd bI (Int.tmod a1 64)) - 1)) then (if (wrap64 ((rd bI (Int.tmod a1 64)) - 1)) < (bH.length : Int) then (some ((fG bH (wrap64 ((rd bI (Int.tmod a1 64)) - 1))).f0, (fG bH (wrap64 ((rd bI (Int.tmod a1 64)) - 1))).f1, true)) else (none)) else (none))) else (none)) else (none)) else (some ((⟨#[]⟩ : ByteArray), (⟨#[]⟩ : ByteArray), false))) = some (r1, r2, r3) := H
 have A3 := ak sn
 clear sn
 by_cases c4 : sK = true
 ·subst c4
  have H1 : (if 0 ≤ (Int.tmod a1 64) then (if (Int.tmod a1 64) < (bI.length : Int) then (if (rd bI (Int.tmod a1 64)) = 0 then (some ((⟨#[]⟩ : ByteArray), (⟨#[]⟩ : ByteArray), false)) else (if 0 ≤ (wrap64 ((rd bI (Int.tmod a1 64)) - 1)) then (if (wrap64 ((rd bI (Int.tmod a1 64)) - 1)) < (bH.length : Int) then (some ((fG bH (wrap64 ((rd bI (Int.tmod a1 64)) - 1))).f0, (fG bH (wrap64 ((rd bI (Int.tmod a1 64)) - 1))).f1, true)) else (none)) else (none))) else (none)) else (none)) = some (r1, r2, r3) := by rw [if_pos rfl] at H; exact H
  clear H
  have H := H1
  clear H1
  obtain ⟨kA, Bv⟩ : ∃ j_ : Int, (Int.tmod a1 64) = j_ := ⟨_, rfl⟩
  replace H : (if 0 ≤ (kA) then (if (kA) < (bI.length : Int) then (if (rd bI (kA)) = 0 then (some ((⟨#[]⟩ : ByteArray), (⟨#[]⟩ : ByteArray), false)) else (if 0 ≤ (wrap64 ((rd bI (kA)) - 1)) then (if (wrap64 ((rd bI (kA)) - 1)) < (bH.length : Int) then (some ((fG bH (wrap64 ((rd bI (kA)) - 1))).f0, (fG bH (wrap64 ((rd bI (kA)) - 1))).f1, true)) else (none)) else (none))) else (none)) else (none)) = some (r1, r2, r3) := by first | (rw [Bv] at H; exact H) | (simp only [Bv] at H ⊢; exact H)
  (try rw [Bv] at A3)
  by_cases c6 : 0 ≤ (kA)
  ·rw [if_pos c6] at H
   have nJ : decide (0 ≤ (kA)) = true := decide_eq_true c6
   clear c6
   by_cases c7 : (kA) < (bI.length : Int)
   ·rw [if_pos c7] at H
    have qC : decide ((kA) < (bI.length : Int)) = true := decide_eq_true c7
    clear c7
    by_cases c8 : (rd bI (kA)) = 0
    ·rw [if_pos c8] at H
     have qB : ((rd bI (kA)) == 0) = true := beq_iff_eq.mpr c8
     have BV : ((rd bI (kA)) != 0) = false := bne_eq_false_iff_eq.mpr c8
     clear c8
     simp only [Option.some.injEq, Prod.mk.injEq] at H
     obtain ⟨rfl, rfl, rfl⟩ := H
     go_enter Try.func62, Try.ntmps62
     go_wp2_with (first | ((with_reducible refine av (N := 2) rfl ?_); refine fb ?hg (N := 2) ?hd (cs := #[.int .u32 br, .string bB, .slice fv bI.length fp, .slice eY cJ.length eW, .slice eK bH.length eB]) (t := 62) ?hr ?_; (case hd => rfl); (case hg => rfl); (case hr => first | (go_simp; done) | (go_simp; rfl)); intro bX hg w9 hbox hb; have cD := ak (bE (by repeat (first | (with_reducible first | exact HB.out | apply al | apply af | apply aq) | exact HB.out)) hb); have cT := ak (hbox); have dk := ak ((by rw [hg]; exact (bs (by repeat (first | (with_reducible first | exact HB.out | apply al | apply af | apply aq) | exact HB.out))) : w.heap.size ≤ bX)); have dS := ak ((by rw [hg]; exact (bs (by repeat (first | (with_reducible first | exact HB.out | apply al | apply af | apply aq) | exact HB.out))) : w.heap.size ≤ bX)); clear HB; have HB := cD; have bc := cT; have DV := dk; have ib := dS; clear cD cT dk dS; clear hb hbox hg) | ((with_reducible refine av (N := 4) rfl ?_); refine fb ?hg (N := 4) ?hd (cs := #[.string (⟨#[]⟩ : ByteArray), .string (⟨#[]⟩ : ByteArray)]) (t := 76) ?hr ?_; (case hd => rfl); (case hg => rfl); (case hr => first | (go_simp; done) | (go_simp; rfl)); intro cZ hg zk hbox hb; have cD := ak (eV (g := bX) (o := .cells #[.int .u32 br, .string bB, .slice fv bI.length fp, .slice eY cJ.length eW, .slice eK bH.length eB] 62 (0, 0)) (by (with_reducible repeat (first | refine aK ?_ _ | refine aT ?_ | refine aM ?_ _)); exact bc.out) hb); have cT := ak (bE (by repeat (first | (with_reducible first | exact HB.out | apply al | apply af | apply aq | refine aQ ?_ ib.out) | exact HB.out)) hb); have dk := ak (hbox); have dS := ak ((by rw [hg]; exact (bs (by repeat (first | (with_reducible first | exact HB.out | apply al | apply af | apply aq | refine aQ ?_ ib.out) | exact HB.out))) : w.heap.size ≤ cZ)); have je := ak ((by rw [hg]; exact (bs (by repeat (first | (with_reducible first | exact HB.out | apply al | apply af | apply aq | refine aQ ?_ ib.out) | exact HB.out))) : w.heap.size ≤ cZ)); have lP := ak ((by rw [hg]; exact Nat.ne_of_lt (jM (g := bX) (o := .cells #[.int .u32 br, .string bB, .slice fv bI.length fp, .slice eY cJ.length eW, .slice eK bH.length eB] 62 (0, 0)) (by (with_reducible repeat (first | refine aK ?_ _ | refine aT ?_ | refine aM ?_ _)); exact bc.out)) : bX ≠ cZ)); have pa := ak ((by rw [hg]; exact Nat.ne_of_gt (jM (g := bX) (o := .cells #[.int .u32 br, .string bB, .slice fv bI.length fp, .slice eY cJ.length eW, .slice eK bH.length eB] 62 (0, 0)) (by (with_reducible repeat (first | refine aK ?_ _ | refine aT ?_ | refine aM ?_ _)); exact bc.out)) : cZ ≠ bX)); clear bc; clear HB; have bc := cD; have HB := cT; have eu := dk; have fe := dS; have nC := je; have ej := lP; have jI := pa; clear cD cT dk dS je lP pa; clear hb hbox hg; have Uy := ej.out; have Ut := jI.out; have Sv : zk.cell? ⟨bX, 0, none⟩ = some (.int .u32 br) := (aC bc.out 0).trans rfl; have Su : zk.cell? ⟨bX, 1, none⟩ = some (.string bB) := (aC bc.out 1).trans rfl; have Ss : zk.cell? ⟨bX, 2, none⟩ = some (.slice fv bI.length fp) := (aC bc.out 2).trans rfl; have Sr : zk.cell? ⟨bX, 3, none⟩ = some (.slice eY cJ.length eW) := (aC bc.out 3).trans rfl; have Sq : zk.cell? ⟨bX, 4, none⟩ = some (.slice eK bH.length eB) := (aC bc.out 4).trans rfl; have Rx := ao bc.out 0; have Rv := ao bc.out 1; have Ru := ao bc.out 2; have Rt := ao bc.out 3; have Rs := ao bc.out 4) | ((with_reducible refine fL (f := 100) rfl ?_); refine kL (some 8) rfl rfl Try.func100 (by kernel_rfl) rfl #[.agg #[.int .u32 br, .string bB, .slice fv bI.length fp, .slice eY cJ.length eW, .slice eK bH.length eB], .int .u32 a1] rfl (by (try simp only [List.map_toArray, List.map_cons, List.map_nil]); first | done | rfl | (simp only [List.length_drop, List.length_take]; rfl)) ?_; (with_reducible refine (fA.calls br bB _ _ bI _ _ cJ _ _ bH a1 true _ ?side1 ?side2 ?side3 ?side4 ?side5 ?side6 A3.out).mono ?_); (case side1 => repeat (first | exact (Kd.C_below pT.out HB.out) | (with_reducible refine Kd.C_alloc ?_ _) | (with_reducible refine Kd.C_drewN ?_ _) | (with_reducible refine Kd.C_drew ?_))); (case side2 => exact yz.out); (case side3 => repeat (first | exact (Kd.C_below vF.out HB.out) | (with_reducible refine Kd.C_alloc ?_ _) | (with_reducible refine Kd.C_drewN ?_ _) | (with_reducible refine Kd.C_drew ?_))); (case side4 => exact yy.out); (case side5 => repeat (first | exact (Kd.C_below tJ.out HB.out) | (with_reducible refine Kd.C_alloc ?_ _) | (with_reducible refine Kd.C_drewN ?_ _) | (with_reducible refine Kd.C_drew ?_))); (case side6 => exact yx.out); rintro e AD ⟨rfl, hb⟩; refine ⟨_, rfl, ?_⟩; have cD := ak (eV (g := bX) (o := .cells #[.int .u32 br, .string bB, .slice fv bI.length fp, .slice eY cJ.length eW, .slice eK bH.length eB] 62 (0, 0)) (by (with_reducible repeat (first | refine aK ?_ _ | refine aT ?_ | refine aM ?_ _)); exact bc.out) hb); have cT := ak (eV (g := cZ) (o := .cells #[.string (⟨#[]⟩ : ByteArray), .string (⟨#[]⟩ : ByteArray)] 76 (0, 0)) (by (with_reducible repeat (first | refine aK ?_ _ | refine aT ?_ | refine aM ?_ _)); exact eu.out) hb); have dk := ak (bE (by repeat (first | (with_reducible first | exact HB.out | apply al | apply af | apply aq | refine aQ ?_ ib.out | refine aQ ?_ nC.out) | exact HB.out)) hb); clear bc; clear eu; clear HB; have bc := cD; have eu := cT; have HB := dk; clear cD cT dk; (try clear hb); (try clear eU); (try clear hk); (try clear hi); have LL : AD.cell? ⟨bX, 0, none⟩ = some (.int .u32 br) := (aC bc.out 0).trans rfl; have LK : AD.cell? ⟨bX, 1, none⟩ = some (.string bB) := (aC bc.out 1).trans rfl; have LJ : AD.cell? ⟨bX, 2, none⟩ = some (.slice fv bI.length fp) := (aC bc.out 2).trans rfl; have LI : AD.cell? ⟨bX, 3, none⟩ = some (.slice eY cJ.length eW) := (aC bc.out 3).trans rfl; have LH : AD.cell? ⟨bX, 4, none⟩ = some (.slice eK bH.length eB) := (aC bc.out 4).trans rfl; have Ls := ao bc.out 0; have Lr := ao bc.out 1; have Lq := ao bc.out 2; have Lp := ao bc.out 3; have Lo := ao bc.out 4; have qq : 0 ≤ ((kA) : Int) := of_decide_eq_true (by first | (with_reducible assumption) | assumption); have qi : (kA) < (bI.length : Int) := of_decide_eq_true (by first | (with_reducible assumption) | assumption); obtain ⟨vC, BP, lR⟩ := Kd.at_int pT.out (kA) qq qi; cases BP; replace lR := (HB.out.cell (World.block_lt_of_cell? w _ lR)).trans lR; replace qq := eq_true qq; replace qi := eq_true qi; have Sk : AD.cell? ⟨cZ, 0, none⟩ = some (.string (⟨#[]⟩ : ByteArray)) := (aC eu.out 0).trans rfl; have Sj : AD.cell? ⟨cZ, 1, none⟩ = some (.string (⟨#[]⟩ : ByteArray)) := (aC eu.out 1).trans rfl; have Rl := ao eu.out 0; have Rk := ao eu.out 1))
     refine bodyPost_ret (e8 rfl _ _ cZ 76 #[.string (⟨#[]⟩ : ByteArray), .string (⟨#[]⟩ : ByteArray)] (0, 0) _ rfl (by (with_reducible repeat (first | refine aK ?_ _ | refine aT ?_ | refine aM ?_ _)); refine eX (cs := #[.string (⟨#[]⟩ : ByteArray), .string (⟨#[]⟩ : ByteArray)]) ?_ 1 _ rfl; (with_reducible repeat (first | refine aK ?_ _ | refine aT ?_ | refine aM ?_ _)); refine eX (cs := #[.string (⟨#[]⟩ : ByteArray), .string (⟨#[]⟩ : ByteArray)]) ?_ 0 _ rfl; (with_reducible repeat (first | refine aK ?_ _ | refine aT ?_ | refine aM ?_ _)); exact eu.out) Try.underlying76 rfl (by kernel_rfl)) rfl ?_
     exact ⟨by first | rfl | (simp [cy, cx] <;> rfl) | (simp only [← Bv]; first | rfl | (simp [cy, cx] <;> rfl)) | (simp [*, cy, cx] <;> rfl), by repeat (first | (with_reducible first | exact HB.out | apply al | apply af | apply aq | refine aQ ?_ ib.out | refine aQ ?_ nC.out) | exact HB.out)⟩
    ·rw [if_neg c8] at H
     have qB : ((rd bI (kA)) == 0) = false := beq_eq_false_iff_ne.mpr c8
     have BV : ((rd bI (kA)) != 0) = true := bne_iff_ne.mpr c8
     obtain ⟨kI, wZ⟩ : ∃ j_ : Int, (wrap64 ((rd bI (kA)) - 1)) = j_ := ⟨_, rfl⟩
     replace H : (if 0 ≤ (kI) then (if (kI) < (bH.length : Int) then (some ((fG bH (kI)).f0, (fG bH (kI)).f1, true)) else (none)) else (none)) = some (r1, r2, r3) := by first | (rw [wZ] at H; exact H) | (simp only [wZ] at H ⊢; exact H)
     (try rw [wZ] at A3)
     have SZ : (IntKind.i64.wrap ((rd bI (kA)) - 1)) = kI := (mh _).trans wZ
     by_cases uP : 0 ≤ (kI)
     ·rw [if_pos uP] at H
      have Iz : decide (0 ≤ (kI)) = true := decide_eq_true uP
      clear uP
      by_cases uO : (kI) < (bH.length : Int)
      ·rw [if_pos uO] at H
       have Iy : decide ((kI) < (bH.length : Int)) = true := decide_eq_true uO
       clear uO
       simp only [Option.some.injEq, Prod.mk.injEq] at H
       obtain ⟨rfl, rfl, rfl⟩ := H
       go_enter Try.func62, Try.ntmps62
       try go_wp2_with (first | ((with_reducible refine av (N := 2) rfl ?_); refine fb ?hg (N := 2) ?hd (cs := #[.int .u32 br, .string bB, .slice fv bI.length fp, .slice eY cJ.length eW, .slice eK bH.length eB]) (t := 62) ?hr ?_; (case hd => rfl); (case hg => rfl); (case hr => first | (go_simp; done) | (go_simp; rfl)); intro bX hg U9 hbox hb; have cD := ak (bE (by repeat (first | (with_reducible first | exact HB.out | apply al | apply af | apply aq) | exact HB.out)) hb); have cT := ak (hbox); have dk := ak ((by rw [hg]; exact (bs (by repeat (first | (with_reducible first | exact HB.out | apply al | apply af | apply aq) | exact HB.out))) : w.heap.size ≤ bX)); have dS := ak ((by rw [hg]; exact (bs (by repeat (first | (with_reducible first | exact HB.out | apply al | apply af | apply aq) | exact HB.out))) : w.heap.size ≤ bX)); clear HB; have HB := cD; have bc := cT; have DV := dk; have ib := dS; clear cD cT dk dS; clear hb hbox hg) | ((with_reducible refine av (N := 4) rfl ?_); refine fb ?hg (N := 4) ?hd (cs := #[.string (⟨#[]⟩ : ByteArray), .string (⟨#[]⟩ : ByteArray)]) (t := 76) ?hr ?_; (case hd => rfl); (case hg => rfl); (case hr => first | (go_simp; done) | (go_simp; rfl)); intro cZ hg ui hbox hb; have cD := ak (eV (g := bX) (o := .cells #[.int .u32 br, .string bB, .slice fv bI.length fp, .slice eY cJ.length eW, .slice eK bH.length eB] 62 (0, 0)) (by (with_reducible repeat (first | refine aK ?_ _ | refine aT ?_ | refine aM ?_ _)); exact bc.out) hb); have cT := ak (bE (by repeat (first | (with_reducible first | exact HB.out | apply al | apply af | apply aq | refine aQ ?_ ib.out) | exact HB.out)) hb); have dk := ak (hbox); have dS := ak ((by rw [hg]; exact (bs (by repeat (first | (with_reducible first | exact HB.out | apply al | apply af | apply aq | refine aQ ?_ ib.out) | exact HB.out))) : w.heap.size ≤ cZ)); have je := ak ((by rw [hg]; exact (bs (by repeat (first | (with_reducible first | exact HB.out | apply al | apply af | apply aq | refine aQ ?_ ib.out) | exact HB.out))) : w.heap.size ≤ cZ)); have lP := ak ((by rw [hg]; exact Nat.ne_of_lt (jM (g := bX) (o := .cells #[.int .u32 br, .string bB, .slice fv bI.length fp, .slice eY cJ.length eW, .slice eK bH.length eB] 62 (0, 0)) (by (with_reducible repeat (first | refine aK ?_ _ | refine aT ?_ | refine aM ?_ _)); exact bc.out)) : bX ≠ cZ)); have pa := ak ((by rw [hg]; exact Nat.ne_of_gt (jM (g := bX) (o := .cells #[.int .u32 br, .string bB, .slice fv bI.length fp, .slice eY cJ.length eW, .slice eK bH.length eB] 62 (0, 0)) (by (with_reducible repeat (first | refine aK ?_ _ | refine aT ?_ | refine aM ?_ _)); exact bc.out)) : cZ ≠ bX)); clear bc; clear HB; have bc := cD; have HB := cT; have eu := dk; have fe := dS; have nC := je; have ej := lP; have jI := pa; clear cD cT dk dS je lP pa; clear hb hbox hg; have Uw := ej.out; have Ur := jI.out; have LA : ui.cell? ⟨bX, 0, none⟩ = some (.int .u32 br) := (aC bc.out 0).trans rfl; have Lz : ui.cell? ⟨bX, 1, none⟩ = some (.string bB) := (aC bc.out 1).trans rfl; have Ly : ui.cell? ⟨bX, 2, none⟩ = some (.slice fv bI.length fp) := (aC bc.out 2).trans rfl; have Lx : ui.cell? ⟨bX, 3, none⟩ = some (.slice eY cJ.length eW) := (aC bc.out 3).trans rfl; have Lw : ui.cell? ⟨bX, 4, none⟩ = some (.slice eK bH.length eB) := (aC bc.out 4).trans rfl; have Li := ao bc.out 0; have Lh := ao bc.out 1; have Lg := ao bc.out 2; have Lf := ao bc.out 3; have Le := ao bc.out 4) | ((with_reducible refine fL (f := 100) rfl ?_); refine kL (some 8) rfl rfl Try.func100 (by kernel_rfl) rfl #[.agg #[.int .u32 br, .string bB, .slice fv bI.length fp, .slice eY cJ.length eW, .slice eK bH.length eB], .int .u32 a1] rfl (by (try simp only [List.map_toArray, List.map_cons, List.map_nil]); first | done | rfl | (simp only [List.length_drop, List.length_take]; rfl)) ?_; (with_reducible refine (fA.calls br bB _ _ bI _ _ cJ _ _ bH a1 true _ ?side1 ?side2 ?side3 ?side4 ?side5 ?side6 A3.out).mono ?_); (case side1 => repeat (first | exact (Kd.C_below pT.out HB.out) | (with_reducible refine Kd.C_alloc ?_ _) | (with_reducible refine Kd.C_drewN ?_ _) | (with_reducible refine Kd.C_drew ?_))); (case side2 => exact yz.out); (case side3 => repeat (first | exact (Kd.C_below vF.out HB.out) | (with_reducible refine Kd.C_alloc ?_ _) | (with_reducible refine Kd.C_drewN ?_ _) | (with_reducible refine Kd.C_drew ?_))); (case side4 => exact yy.out); (case side5 => repeat (first | exact (Kd.C_below tJ.out HB.out) | (with_reducible refine Kd.C_alloc ?_ _) | (with_reducible refine Kd.C_drewN ?_ _) | (with_reducible refine Kd.C_drew ?_))); (case side6 => exact yx.out); rintro e o6 ⟨rfl, hb⟩; refine ⟨_, rfl, ?_⟩; have cD := ak (eV (g := bX) (o := .cells #[.int .u32 br, .string bB, .slice fv bI.length fp, .slice eY cJ.length eW, .slice eK bH.length eB] 62 (0, 0)) (by (with_reducible repeat (first | refine aK ?_ _ | refine aT ?_ | refine aM ?_ _)); exact bc.out) hb); have cT := ak (eV (g := cZ) (o := .cells #[.string (⟨#[]⟩ : ByteArray), .string (⟨#[]⟩ : ByteArray)] 76 (0, 0)) (by (with_reducible repeat (first | refine aK ?_ _ | refine aT ?_ | refine aM ?_ _)); exact eu.out) hb); have dk := ak (bE (by repeat (first | (with_reducible first | exact HB.out | apply al | apply af | apply aq | refine aQ ?_ ib.out | refine aQ ?_ nC.out) | exact HB.out)) hb); clear bc; clear eu; clear HB; have bc := cD; have eu := cT; have HB := dk; clear cD cT dk; (try clear hb); (try clear eU); (try clear hk); (try clear hi); have R3 : o6.cell? ⟨bX, 0, none⟩ = some (.int .u32 br) := (aC bc.out 0).trans rfl; have R2 : o6.cell? ⟨bX, 1, none⟩ = some (.string bB) := (aC bc.out 1).trans rfl; have R1 : o6.cell? ⟨bX, 2, none⟩ = some (.slice fv bI.length fp) := (aC bc.out 2).trans rfl; have R0 : o6.cell? ⟨bX, 3, none⟩ = some (.slice eY cJ.length eW) := (aC bc.out 3).trans rfl; have RZ : o6.cell? ⟨bX, 4, none⟩ = some (.slice eK bH.length eB) := (aC bc.out 4).trans rfl; have Q3 := ao bc.out 0; have Q2 := ao bc.out 1; have Q1 := ao bc.out 2; have Q0 := ao bc.out 3; have QZ := ao bc.out 4; have qq : 0 ≤ ((kA) : Int) := of_decide_eq_true (by first | (with_reducible assumption) | assumption); have qi : (kA) < (bI.length : Int) := of_decide_eq_true (by first | (with_reducible assumption) | assumption); obtain ⟨vC, BP, lR⟩ := Kd.at_int pT.out (kA) qq qi; cases BP; replace lR := (HB.out.cell (World.block_lt_of_cell? w _ lR)).trans lR; replace qq := eq_true qq; replace qi := eq_true qi))
       have cD := ak (aT bc.out)
       have cT := ak (aT eu.out)
       have dk := ak (aq HB.out)
       clear bc
       clear eu
       clear HB
       have bc := cD
       have eu := cT
       have HB := dk
       clear cD cT dk
       have Ba : 0 ≤ ((kA) : Int) := of_decide_eq_true (by first | (with_reducible assumption) | assumption)
       have AX : (kA) < (bI.length : Int) := of_decide_eq_true (by first | (with_reducible assumption) | assumption)
       obtain ⟨L8, Nd, pg⟩ := Kd.at_int pT.out (kA) Ba AX
       have jX := pg
       obtain rfl : vC = L8 := (by injection Nd)
       replace pg := (HB.out.cell (World.block_lt_of_cell? w _ pg)).trans pg
       replace Ba := eq_true Ba
       replace AX := eq_true AX
       have AZ : 0 ≤ ((kI) : Int) := of_decide_eq_true (by first | (with_reducible assumption) | assumption)
       have AW : (kI) < (bH.length : Int) := of_decide_eq_true (by first | (with_reducible assumption) | assumption)
       obtain ⟨vB, Nc, pf, pd⟩ := F6 tJ.out (kI) AZ AW
       have jV := pd
       have jW := pf
       cases Nc
       replace pf := (HB.out.cell (World.block_lt_of_cell? w _ pf)).trans pf
       replace pd := (HB.out.cell (World.block_lt_of_cell? w _ pd)).trans pd
       replace AZ := eq_true AZ
       replace AW := eq_true AW
       refine da (n := 13) (S := fun w' => w'.cell? ⟨bX, 0, none⟩ = some (.int .u32 br) ∧ w'.cell? ⟨bX, 1, none⟩ = some (.string bB) ∧ w'.cell? ⟨bX, 2, none⟩ = some (.slice (some vC) bI.length fp) ∧ w'.cell? ⟨bX, 3, none⟩ = some (.slice eY cJ.length eW) ∧ w'.cell? ⟨bX, 4, none⟩ = some (.slice (some vB) bH.length eB) ∧ w'.cell? (vC.add ((kA)).toNat) = some (.int .i64 (rd bI (kA))) ∧ w'.cell? (vB.add (((kI)).toNat * 2)) = some (.string ((fG bH (kI)).f0)) ∧ w'.cell? ⟨(vB.add (((kI)).toNat * 2)).block, (vB.add (((kI)).toNat * 2)).off + 1, none⟩ = some (.string ((fG bH (kI)).f1))) (ds := []) #[false, false, false, false, false, false, false, false, false, false, false, false, false] (by kernel_rfl) rfl rfl ⟨(aC bc.out 0).trans rfl, (aC bc.out 1).trans rfl, (aC bc.out 2).trans rfl, (aC bc.out 3).trans rfl, (aC bc.out 4).trans rfl, ((HB.out.cell (World.block_lt_of_cell? w _ jX)).trans jX), ((HB.out.cell (World.block_lt_of_cell? w _ jW)).trans jW), ((HB.out.cell (World.block_lt_of_cell? w _ jV)).trans jV)⟩ (fun hHeld => ?_); refine bK ek.tab3 ek.bits3 (fun ab bq => ?_)
       generalize o6.drew = Pm at bc eu HB pg pf pd hHeld ⊢
       refine pu 0 ab.out ?_
       refine pu 2 ab.out ?_
       refine pu 4 ab.out ?_
       refine pu 5 ab.out ?_
       refine take_ (i := 1) (N := some 21) (v := ?_) (a' := ?_) #[true, true, true, false, true, true, false, false, false, false, false, false, false] rfl rfl (qa ab.out bq.out (by kernel_rfl)) (fun _ _ _ h => h) (Or.inl ⟨by rfl, ?_⟩) hHeld ?_ ?_
       rotate_left
       ·rintro w' ⟨s0, s1, s2, s3, s4, s5, s6, s7⟩
        go_simp
        with_reducible rfl
       rotate_left
       ·simp only [Act.put, List.setIfInBounds_toArray, List.set_cons_zero, List.set_cons_succ, mh, m3]
        rfl
       refine take_ (i := 3) (N := some 23) (v := ?_) (a' := ?_) #[true, true, true, true, true, true, false, false, false, false, false, false, false] rfl rfl (qa ab.out bq.out (by kernel_rfl)) (fun _ _ _ h => h) (Or.inl ⟨by rfl, ?_⟩) hHeld ?_ ?_
       rotate_left
       ·rintro w' ⟨s0, s1, s2, s3, s4, s5, s6, s7⟩
        go_simp
        with_reducible rfl
       rotate_left
       ·simp only [Act.put, List.setIfInBounds_toArray, List.set_cons_zero, List.set_cons_succ, mh, m3]
        rfl
       refine pu 6 ab.out ?_
       refine take_ (i := 7) (N := some 27) (v := ?_) (a' := ?_) #[true, true, true, true, true, true, true, true, false, false, false, false, false] rfl rfl (qa ab.out bq.out (by kernel_rfl)) (fun _ _ _ h => h) (Or.inl ⟨by rfl, ?_⟩) hHeld ?_ ?_
       rotate_left
       ·rintro w' ⟨s0, s1, s2, s3, s4, s5, s6, s7⟩
        go_simp
        with_reducible rfl
       rotate_left
       ·simp only [Act.put, List.setIfInBounds_toArray, List.set_cons_zero, List.set_cons_succ, mh, m3]
        rfl
       refine pu 8 ab.out ?_
       refine pu 9 ab.out ?_
       refine take_ (i := 10) (N := some 30) (v := ?_) (a' := ?_) #[true, true, true, true, true, true, true, true, true, true, true, false, false] rfl rfl (qa ab.out bq.out (by kernel_rfl)) (fun _ _ _ h => h) (Or.inl ⟨by rfl, ?_⟩) hHeld ?_ ?_
       rotate_left
       ·rintro w' ⟨s0, s1, s2, s3, s4, s5, s6, s7⟩
        go_simp
        with_reducible rfl
       rotate_left
       ·simp only [Act.put, List.setIfInBounds_toArray, List.set_cons_zero, List.set_cons_succ, mh, m3]
        rfl
       refine ow 11 ab.out (fun K hK => ?_)
       have UR : Pm.cell? ⟨cZ, 0, none⟩ = some (.string (⟨#[]⟩ : ByteArray)) := (aC eu.out 0).trans rfl
       have UI := ao eu.out 0
       have QF := ej.out
       have QH := jI.out
       have UQ : Pm.cell? ⟨cZ, 1, none⟩ = some (.string (⟨#[]⟩ : ByteArray)) := (aC eu.out 1).trans rfl
       have UH := ao eu.out 1
       have QE := ej.out
       have QG := jI.out
       refine pI (w1 := ?_) (by rfl) rfl ?_ ?_
       rotate_left
       ·go_simp
        rfl
       refine hK.out _ _ ⟨((cell_far (p := ⟨cZ, _, none⟩) ej.out _).trans (((cell_far (p := ⟨cZ, _, none⟩) ej.out _).trans (hHeld.1)))), ((cell_far (p := ⟨cZ, _, none⟩) ej.out _).trans (((cell_far (p := ⟨cZ, _, none⟩) ej.out _).trans (hHeld.2.1)))), ((cell_far (p := ⟨cZ, _, none⟩) ej.out _).trans (((cell_far (p := ⟨cZ, _, none⟩) ej.out _).trans (hHeld.2.2.1)))), ((cell_far (p := ⟨cZ, _, none⟩) ej.out _).trans (((cell_far (p := ⟨cZ, _, none⟩) ej.out _).trans (hHeld.2.2.2.1)))), ((cell_far (p := ⟨cZ, _, none⟩) ej.out _).trans (((cell_far (p := ⟨cZ, _, none⟩) ej.out _).trans (hHeld.2.2.2.2.1)))), ((cell_far (p := ⟨cZ, _, none⟩) (by first | exact Nat.ne_of_lt (Nat.lt_of_lt_of_le (by have := World.block_lt_of_cell? _ _ jX; first | rwa [cj] at this | exact this) fe.out) | (rw [cj]; exact Nat.ne_of_lt (Nat.lt_of_lt_of_le (by have := World.block_lt_of_cell? _ _ jX; first | rwa [cj] at this | exact this) fe.out)) | (show (Addr.add _ _).block ≠ _; rw [cj]; exact Nat.ne_of_lt (Nat.lt_of_lt_of_le (by have := World.block_lt_of_cell? _ _ jX; first | rwa [cj] at this | exact this) fe.out)) | (dsimp only; exact Nat.ne_of_lt (Nat.lt_of_lt_of_le (by have := World.block_lt_of_cell? _ _ jX; first | rwa [cj] at this | exact this) fe.out))) _).trans (((cell_far (p := ⟨cZ, _, none⟩) (by first | exact Nat.ne_of_lt (Nat.lt_of_lt_of_le (by have := World.block_lt_of_cell? _ _ jX; first | rwa [cj] at this | exact this) fe.out) | (rw [cj]; exact Nat.ne_of_lt (Nat.lt_of_lt_of_le (by have := World.block_lt_of_cell? _ _ jX; first | rwa [cj] at this | exact this) fe.out)) | (show (Addr.add _ _).block ≠ _; rw [cj]; exact Nat.ne_of_lt (Nat.lt_of_lt_of_le (by have := World.block_lt_of_cell? _ _ jX; first | rwa [cj] at this | exact this) fe.out)) | (dsimp only; exact Nat.ne_of_lt (Nat.lt_of_lt_of_le (by have := World.block_lt_of_cell? _ _ jX; first | rwa [cj] at this | exact this) fe.out))) _).trans (hHeld.2.2.2.2.2.1)))), ((cell_far (p := ⟨cZ, _, none⟩) (by first | exact Nat.ne_of_lt (Nat.lt_of_lt_of_le (by have := World.block_lt_of_cell? _ _ jW; first | rwa [cj] at this | exact this) fe.out) | (rw [cj]; exact Nat.ne_of_lt (Nat.lt_of_lt_of_le (by have := World.block_lt_of_cell? _ _ jW; first | rwa [cj] at this | exact this) fe.out)) | (show (Addr.add _ _).block ≠ _; rw [cj]; exact Nat.ne_of_lt (Nat.lt_of_lt_of_le (by have := World.block_lt_of_cell? _ _ jW; first | rwa [cj] at this | exact this) fe.out)) | (dsimp only; exact Nat.ne_of_lt (Nat.lt_of_lt_of_le (by have := World.block_lt_of_cell? _ _ jW; first | rwa [cj] at this | exact this) fe.out))) _).trans (((cell_far (p := ⟨cZ, _, none⟩) (by first | exact Nat.ne_of_lt (Nat.lt_of_lt_of_le (by have := World.block_lt_of_cell? _ _ jW; first | rwa [cj] at this | exact this) fe.out) | (rw [cj]; exact Nat.ne_of_lt (Nat.lt_of_lt_of_le (by have := World.block_lt_of_cell? _ _ jW; first | rwa [cj] at this | exact this) fe.out)) | (show (Addr.add _ _).block ≠ _; rw [cj]; exact Nat.ne_of_lt (Nat.lt_of_lt_of_le (by have := World.block_lt_of_cell? _ _ jW; first | rwa [cj] at this | exact this) fe.out)) | (dsimp only; exact Nat.ne_of_lt (Nat.lt_of_lt_of_le (by have := World.block_lt_of_cell? _ _ jW; first | rwa [cj] at this | exact this) fe.out))) _).trans (hHeld.2.2.2.2.2.2.1)))), ((cell_far (p := ⟨cZ, _, none⟩) (by first | exact Nat.ne_of_lt (Nat.lt_of_lt_of_le (by have := World.block_lt_of_cell? _ _ jV; first | rwa [cj] at this | exact this) fe.out) | (rw [cj]; exact Nat.ne_of_lt (Nat.lt_of_lt_of_le (by have := World.block_lt_of_cell? _ _ jV; first | rwa [cj] at this | exact this) fe.out)) | (show (Addr.add _ _).block ≠ _; rw [cj]; exact Nat.ne_of_lt (Nat.lt_of_lt_of_le (by have := World.block_lt_of_cell? _ _ jV; first | rwa [cj] at this | exact this) fe.out)) | (dsimp only; exact Nat.ne_of_lt (Nat.lt_of_lt_of_le (by have := World.block_lt_of_cell? _ _ jV; first | rwa [cj] at this | exact this) fe.out))) _).trans (((cell_far (p := ⟨cZ, _, none⟩) (by first | exact Nat.ne_of_lt (Nat.lt_of_lt_of_le (by have := World.block_lt_of_cell? _ _ jV; first | rwa [cj] at this | exact this) fe.out) | (rw [cj]; exact Nat.ne_of_lt (Nat.lt_of_lt_of_le (by have := World.block_lt_of_cell? _ _ jV; first | rwa [cj] at this | exact this) fe.out)) | (show (Addr.add _ _).block ≠ _; rw [cj]; exact Nat.ne_of_lt (Nat.lt_of_lt_of_le (by have := World.block_lt_of_cell? _ _ jV; first | rwa [cj] at this | exact this) fe.out)) | (dsimp only; exact Nat.ne_of_lt (Nat.lt_of_lt_of_le (by have := World.block_lt_of_cell? _ _ jV; first | rwa [cj] at this | exact this) fe.out))) _).trans (hHeld.2.2.2.2.2.2.2))))⟩ (fun hHeld => ?_)
       clear hK K
       refine pu 12 ab.out ?_
       refine dn ab.out ?_
       try go_wp2
       refine bodyPost_ret (e8 rfl _ _ cZ 76 #[.string ((fG bH (kI)).f0), .string ((fG bH (kI)).f1)] (0, 0) _ rfl (by (with_reducible repeat (first | refine aK ?_ _ | refine aT ?_ | refine aM ?_ _)); refine eX (cs := #[.string ((fG bH (kI)).f0), .string (⟨#[]⟩ : ByteArray)]) ?_ 1 _ rfl; (with_reducible repeat (first | refine aK ?_ _ | refine aT ?_ | refine aM ?_ _)); refine eX (cs := #[.string (⟨#[]⟩ : ByteArray), .string (⟨#[]⟩ : ByteArray)]) ?_ 0 _ rfl; (with_reducible repeat (first | refine aK ?_ _ | refine aT ?_ | refine aM ?_ _)); exact eu.out) Try.underlying76 rfl (by kernel_rfl)) rfl ?_
       exact ⟨by first | rfl | (simp [cy, cx] <;> rfl) | (simp only [← Bv, ← wZ]; first | rfl | (simp [cy, cx] <;> rfl)) | (simp [*, cy, cx] <;> rfl), by repeat (first | (with_reducible first | exact HB.out | apply al | apply af | apply aq | refine aQ ?_ ib.out | refine aQ ?_ nC.out) | exact HB.out)⟩
      ·rw [if_neg uO] at H
       exact absurd H (by simp)
     ·rw [if_neg uP] at H
      exact absurd H (by simp)
   ·rw [if_neg c7] at H
    exact absurd H (by simp)
  ·rw [if_neg c6] at H
   exact absurd H (by simp)
 ·replace c4 := Bool.eq_false_iff.mpr c4
  subst c4
  have H1 : (some ((⟨#[]⟩ : ByteArray), (⟨#[]⟩ : ByteArray), false)) = some (r1, r2, r3) := by rw [if_neg (show ¬ (false = true) by decide)] at H; exact H
  clear H
  have H := H1
  clear H1
  simp only [Option.some.injEq, Prod.mk.injEq] at H
  obtain ⟨rfl, rfl, rfl⟩ := H
  go_enter Try.func62, Try.ntmps62
  go_wp2_with (first | ((with_reducible refine av (N := 2) rfl ?_); refine fb ?hg (N := 2) ?hd (cs := #[.int .u32 br, .string bB, .slice fv bI.length fp, .slice eY cJ.length eW, .slice eK bH.length eB]) (t := 62) ?hr ?_; (case hd => rfl); (case hg => rfl); (case hr => first | (go_simp; done) | (go_simp; rfl)); intro bX hg U8 hbox hb; have cD := ak (bE (by repeat (first | (with_reducible first | exact HB.out | apply al | apply af | apply aq) | exact HB.out)) hb); have cT := ak (hbox); have dk := ak ((by rw [hg]; exact (bs (by repeat (first | (with_reducible first | exact HB.out | apply al | apply af | apply aq) | exact HB.out))) : w.heap.size ≤ bX)); have dS := ak ((by rw [hg]; exact (bs (by repeat (first | (with_reducible first | exact HB.out | apply al | apply af | apply aq) | exact HB.out))) : w.heap.size ≤ bX)); clear HB; have HB := cD; have bc := cT; have DV := dk; have ib := dS; clear cD cT dk dS; clear hb hbox hg) | ((with_reducible refine av (N := 4) rfl ?_); refine fb ?hg (N := 4) ?hd (cs := #[.string (⟨#[]⟩ : ByteArray), .string (⟨#[]⟩ : ByteArray)]) (t := 76) ?hr ?_; (case hd => rfl); (case hg => rfl); (case hr => first | (go_simp; done) | (go_simp; rfl)); intro cZ hg EV hbox hb; have cD := ak (eV (g := bX) (o := .cells #[.int .u32 br, .string bB, .slice fv bI.length fp, .slice eY cJ.length eW, .slice eK bH.length eB] 62 (0, 0)) (by (with_reducible repeat (first | refine aK ?_ _ | refine aT ?_ | refine aM ?_ _)); exact bc.out) hb); have cT := ak (bE (by repeat (first | (with_reducible first | exact HB.out | apply al | apply af | apply aq | refine aQ ?_ ib.out) | exact HB.out)) hb); have dk := ak (hbox); have dS := ak ((by rw [hg]; exact (bs (by repeat (first | (with_reducible first | exact HB.out | apply al | apply af | apply aq | refine aQ ?_ ib.out) | exact HB.out))) : w.heap.size ≤ cZ)); have je := ak ((by rw [hg]; exact (bs (by repeat (first | (with_reducible first | exact HB.out | apply al | apply af | apply aq | refine aQ ?_ ib.out) | exact HB.out))) : w.heap.size ≤ cZ)); have lP := ak ((by rw [hg]; exact Nat.ne_of_lt (jM (g := bX) (o := .cells #[.int .u32 br, .string bB, .slice fv bI.length fp, .slice eY cJ.length eW, .slice eK bH.length eB] 62 (0, 0)) (by (with_reducible repeat (first | refine aK ?_ _ | refine aT ?_ | refine aM ?_ _)); exact bc.out)) : bX ≠ cZ)); have pa := ak ((by rw [hg]; exact Nat.ne_of_gt (jM (g := bX) (o := .cells #[.int .u32 br, .string bB, .slice fv bI.length fp, .slice eY cJ.length eW, .slice eK bH.length eB] 62 (0, 0)) (by (with_reducible repeat (first | refine aK ?_ _ | refine aT ?_ | refine aM ?_ _)); exact bc.out)) : cZ ≠ bX)); clear bc; clear HB; have bc := cD; have HB := cT; have eu := dk; have fe := dS; have nC := je; have ej := lP; have jI := pa; clear cD cT dk dS je lP pa; clear hb hbox hg; have Uv := ej.out; have Uq := jI.out; have RN : EV.cell? ⟨bX, 0, none⟩ = some (.int .u32 br) := (aC bc.out 0).trans rfl; have RM : EV.cell? ⟨bX, 1, none⟩ = some (.string bB) := (aC bc.out 1).trans rfl; have RL : EV.cell? ⟨bX, 2, none⟩ = some (.slice fv bI.length fp) := (aC bc.out 2).trans rfl; have RK : EV.cell? ⟨bX, 3, none⟩ = some (.slice eY cJ.length eW) := (aC bc.out 3).trans rfl; have RJ : EV.cell? ⟨bX, 4, none⟩ = some (.slice eK bH.length eB) := (aC bc.out 4).trans rfl; have QO := ao bc.out 0; have QN := ao bc.out 1; have QM := ao bc.out 2; have QL := ao bc.out 3; have QK := ao bc.out 4) | ((with_reducible refine fL (f := 100) rfl ?_); refine kL (some 8) rfl rfl Try.func100 (by kernel_rfl) rfl #[.agg #[.int .u32 br, .string bB, .slice fv bI.length fp, .slice eY cJ.length eW, .slice eK bH.length eB], .int .u32 a1] rfl (by (try simp only [List.map_toArray, List.map_cons, List.map_nil]); first | done | rfl | (simp only [List.length_drop, List.length_take]; rfl)) ?_; (with_reducible refine (fA.calls br bB _ _ bI _ _ cJ _ _ bH a1 false _ ?side1 ?side2 ?side3 ?side4 ?side5 ?side6 A3.out).mono ?_); (case side1 => repeat (first | exact (Kd.C_below pT.out HB.out) | (with_reducible refine Kd.C_alloc ?_ _) | (with_reducible refine Kd.C_drewN ?_ _) | (with_reducible refine Kd.C_drew ?_))); (case side2 => exact yz.out); (case side3 => repeat (first | exact (Kd.C_below vF.out HB.out) | (with_reducible refine Kd.C_alloc ?_ _) | (with_reducible refine Kd.C_drewN ?_ _) | (with_reducible refine Kd.C_drew ?_))); (case side4 => exact yy.out); (case side5 => repeat (first | exact (Kd.C_below tJ.out HB.out) | (with_reducible refine Kd.C_alloc ?_ _) | (with_reducible refine Kd.C_drewN ?_ _) | (with_reducible refine Kd.C_drew ?_))); (case side6 => exact yx.out); rintro e Pk ⟨rfl, hb⟩; refine ⟨_, rfl, ?_⟩; have cD := ak (eV (g := bX) (o := .cells #[.int .u32 br, .string bB, .slice fv bI.length fp, .slice eY cJ.length eW, .slice eK bH.length eB] 62 (0, 0)) (by (with_reducible repeat (first | refine aK ?_ _ | refine aT ?_ | refine aM ?_ _)); exact bc.out) hb); have cT := ak (eV (g := cZ) (o := .cells #[.string (⟨#[]⟩ : ByteArray), .string (⟨#[]⟩ : ByteArray)] 76 (0, 0)) (by (with_reducible repeat (first | refine aK ?_ _ | refine aT ?_ | refine aM ?_ _)); exact eu.out) hb); have dk := ak (bE (by repeat (first | (with_reducible first | exact HB.out | apply al | apply af | apply aq | refine aQ ?_ ib.out | refine aQ ?_ nC.out) | exact HB.out)) hb); clear bc; clear eu; clear HB; have bc := cD; have eu := cT; have HB := dk; clear cD cT dk; (try clear hb); (try clear eU); (try clear hk); (try clear hi); have RI : Pk.cell? ⟨cZ, 0, none⟩ = some (.string (⟨#[]⟩ : ByteArray)) := (aC eu.out 0).trans rfl; have RH : Pk.cell? ⟨cZ, 1, none⟩ = some (.string (⟨#[]⟩ : ByteArray)) := (aC eu.out 1).trans rfl; have QJ := ao eu.out 0; have QI := ao eu.out 1))
  refine bodyPost_ret (e8 rfl _ _ cZ 76 #[.string (⟨#[]⟩ : ByteArray), .string (⟨#[]⟩ : ByteArray)] (0, 0) _ rfl (by (with_reducible repeat (first | refine aK ?_ _ | refine aT ?_ | refine aM ?_ _)); refine eX (cs := #[.string (⟨#[]⟩ : ByteArray), .string (⟨#[]⟩ : ByteArray)]) ?_ 1 _ rfl; (with_reducible repeat (first | refine aK ?_ _ | refine aT ?_ | refine aM ?_ _)); refine eX (cs := #[.string (⟨#[]⟩ : ByteArray), .string (⟨#[]⟩ : ByteArray)]) ?_ 0 _ rfl; (with_reducible repeat (first | refine aK ?_ _ | refine aT ?_ | refine aM ?_ _)); exact eu.out) Try.underlying76 rfl (by kernel_rfl)) rfl ?_
  exact ⟨by first | rfl | (simp [cy, cx] <;> rfl) | (simp [*, cy, cx] <;> rfl), by repeat (first | (with_reducible first | exact HB.out | apply al | apply af | apply aq | refine aQ ?_ ib.out | refine aQ ?_ nC.out) | exact HB.out)⟩
end Go.Proofs.Ytemhalnhbgkbcaa.V
end

section
namespace Go.Proofs.Ytemhalnhbgkbcaa.V
def jd (b : Bk) (x : Int) : At := if fy b x = true then j4 b (x - b.addr).toNat else ⟨⟨#[]⟩, ⟨#[]⟩⟩
theorem ML (b : Bk) (M : List kD) (x : Int) (h0 : 0 ≤ x) (h1 : x < 4294967296) : fA.f b.addr b.aff b.slots b.free M x = some (decide (bN x = b.addr)) := by
 unfold fA.f bN
 rw [Int.tmod_eq_emod_of_nonneg h0, Int.emod_eq_of_lt (by omega) (by omega)]
 congr 1
theorem PW (b : Bk) (hl : b.slots.length = 64) (hs : nN b.slots) (hle : ∀ s ∈ b.slots, s ≤ (b.attrs.length : Int)) (M : List kD) (hM : M = b.attrs.map vc) (x : Int) (h0 : 0 ≤ x) (h1 : x < 4294967296) :
  ek.f b.addr b.aff b.slots b.free M x = some ((jd b x).f0, (jd b x).f1, fy b x) := by
 have hml : M.length = b.attrs.length := by rw [hM, List.length_map]
 unfold ek.f
 rw [ML b M x h0 h1, Option.bind_some]
 by_cases hf : bN x = b.addr
 ·have hj : x % 64 = x - b.addr := by unfold bN at hf; omega
  obtain ⟨j, ph⟩ : ∃ j : Nat, x - b.addr = (j : Int) := ⟨(x - b.addr).toNat, by omega⟩
  have m7 : j < b.slots.length := by omega
  rw [decide_eq_true hf, if_pos rfl, Int.tmod_eq_emod_of_nonneg h0, hj, ph, if_pos (by omega), if_pos (by omega)]
  have hrd : rd b.slots (j : Int) = b.slots[j] := by simp [rd, List.getD, m7]
  have hgd : b.slots.getD j 0 = b.slots[j] := by simp [List.getD, m7]
  have hh : fy b x = (b.slots[j] != 0) := by
   unfold fy
   rw [decide_eq_true hf, ph, Int.toNat_natCast, hgd, Bool.true_and]
  have hms := hs _ (List.getElem_mem m7)
  have Bu := hle _ (List.getElem_mem m7)
  rw [hrd]
  by_cases hz : b.slots[j] = 0
  ·rw [if_pos hz]
   have e : fy b x = false := by rw [hh, hz]; rfl
   unfold jd
   rw [e]
   rfl
  ·rw [if_neg hz]
   have e : fy b x = true := by rw [hh]; simpa using hz
   obtain ⟨m, hm⟩ : ∃ m : Nat, b.slots[j] = (m : Int) + 1 := ⟨(b.slots[j]).toNat - 1, by omega⟩
   have hw : wrap64 (b.slots[j] - 1) = (m : Int) := by rw [hm, g8 _ (by omega) (by omega)]; omega
   have hmm : m < b.attrs.length := by omega
   rw [hw, if_pos (by omega), if_pos (by omega)]
   unfold jd
   rw [e, if_pos rfl, ph, Int.toNat_natCast]
   have Dp : j4 b j = gH b.attrs m := by
    unfold j4
    rw [hgd, hm]
    congr 1
    omega
   have hx : fG M (m : Int) = vc (gH b.attrs m) := by
    rw [hM]
    show fG (b.attrs.map vc) (m : Int) = vc (cU b.attrs (m : Int))
    simp [fG, cU, List.getD, hmm]
   rw [Dp, hx]
   rfl
 ·have e : fy b x = false := by unfold fy; rw [decide_eq_false hf]; rfl
  rw [decide_eq_false hf, if_neg (by decide)]
  unfold jd
  rw [e]
  rfl
theorem pW (b : Bk) (hl : b.slots.length = 64) (hs : nN b.slots) (hle : ∀ s ∈ b.slots, s ≤ (b.attrs.length : Int)) (M : List kD) (As Af Aa : Option Addr) (cs cf ca : Nat) (w : World) (hr : RbR w b M As cs Af cf Aa ca) (x : Int) (h0 : 0 ≤ x) (h1 : x < 4294967296) :
  Calls Try.prog 62 #[.agg (dt b.addr b.aff (.slice As b.slots.length cs) (.slice Af b.free.length cf) (.slice Aa M.length ca)).toArray, .int .u32 x] w fun e w' => e = .returned (.tuple #[.agg #[.string (jd b x).f0, .string (jd b x).f1], .bool (fy b x)]) ∧ Below w.heap.size w w' :=
 ek.calls _ _ _ _ _ _ _ _ _ _ _ x _ _ _ w hr.sr hr.sc hr.fr hr.fc hr.ar hr.ac (PW b hl hs hle M hr.m x h0 h1)
end Go.Proofs.Ytemhalnhbgkbcaa.V
end

section
namespace Go.Proofs.Ytemhalnhbgkbcaa.V
def kF (b : Bk) (n : Int) (a : At) : Bool := dy b && (eP a && decide (0 ≤ n))
theorem ia (a : At) : ∀ u ∈ [Value.string a.f0, .string a.f1], u.oneCell' = true := by
 intro u hu
 simp only [List.mem_cons, List.not_mem_nil, or_false] at hu
 rcases hu with rfl | rfl <;> rfl
set_option maxHeartbeats 8000000 in
set_option maxRecDepth 100000 in
theorem F7 (b : Bk) (hk : BkOk b) (n : Int) (a : At) (hno : kF b n a = false) (v : Value) (w : World) (h : gi w v b) :
  Calls Try.prog 49 #[v, .int .i64 n, et a] w fun e w' => ∃ v' vo, e = .returned (.tuple #[v', vo, .int .i64 1]) ∧ ee w' w.heap.size v' jS ∧ Kd.R (Kd.int .u32) 46 w' w.heap.size (fun _ => True) vo [] ∧ Below w.heap.size w w' := by
 obtain ⟨A, c, A', c', rfl, hr⟩ := h
 have HL := ak hr.l64
 have HR := ak hr
 have HK := ak hk
 clear hr hk
 have ae := ak (Below.refl w.heap.size w)
 unfold kF at hno
 cases hrt : dy b with
 | false =>
  have HRT := ak hrt
  clear hrt hno
  go_enter Try.func49, Try.ntmps49
  go_wp2_with (first
   | (refine aE rfl 57 (.tmp 0) rfl _ rfl ?_; intro gX W1 J aa I; have bS := ge ae J; have aj := ak (ae.out.trans (I.mono ae.out.size)); have ah := ak (aa); clear J aa I ae)
   | (refine aE rfl 85 (.tmp 2) rfl _ rfl ?_; intro gA W2 J aa I; have kj := ge aj J; have eJ := ne ah J; have aw := mv I aj; have au := mv I ah; have bU := ak (aa); clear J aa I aj ah)
   | (refine ax (some 6) rfl rfl 57 rfl a7 bJ ?_; intro gZ W3 J aa I; have bO := ge aw J; have aG := ne au J; have gh := ne bU J; have aD := mv I aw; have aA := mv I au; have cR := mv I bU; have bQ := ak (aa); clear J aa I aw au bU)
   | ((with_reducible refine av (N := 12) rfl ?_); refine ay rfl 57 (.tmp 3) rfl gX rfl _ _ _ aA.out Try.underlying57 rfl 68 (by kernel_rfl) (ag _ _ _ _ _ HL.out) ?_)
   | (go_at_call 48; refine (dW b HK.out _ _ ⟨A, c, A', c', rfl, HR.out.below aD.out⟩).mono ?_; rintro e W4 ⟨rfl, I⟩; rw [HRT.out]; have aW := mv I aD; have aV := mv I aA; have dd := mv I cR; have bb := mv I bQ; clear I aD aA cR bQ)
   | (refine fw rfl 57 #[] rfl a7 lp ?_)
   | (refine aN rfl 57 (.tmp 6) (.tmp 24) rfl gZ a7 rfl rfl 57 _ bb.out 68 (by kernel_rfl) rfl rfl ja ?_; intro W5 aa J; have bf := gb aW bO J; have a9 := gn aV aG J; have eg := gx dd bb J; have bu := ak (aa); clear aa J aW aV dd bb))
  exact bodyPost_ret (iq rfl _ _ gZ 57 _ (0, 0) _ rfl bu.out Try.underlying57 rfl (by simp only [List.size_toArray]; exact b9 _ rfl)) rfl ⟨_, _, rfl, m2 _ _, Kd.R_nil _ _ _ _ _, bf.out⟩
 | true =>
  have HRT := ak hrt
  cases hm : eP a with
  | false =>
   have HMY := ak hm
   clear hrt hno hm
   go_enter Try.func49, Try.ntmps49
   go_wp2_with (first
    | (refine aE rfl 57 (.tmp 0) rfl _ rfl ?_; intro gX W1 J aa I; have bS := ge ae J; have aj := ak (ae.out.trans (I.mono ae.out.size)); have ah := ak (aa); clear J aa I ae)
    | (refine aE rfl 85 (.tmp 2) rfl _ rfl ?_; intro gA W2 J aa I; have kj := ge aj J; have eJ := ne ah J; have aw := mv I aj; have au := mv I ah; have bU := ak (aa); clear J aa I aj ah)
    | (refine ax (some 6) rfl rfl 57 rfl a7 bJ ?_; intro gZ W3 J aa I; have bO := ge aw J; have aG := ne au J; have gh := ne bU J; have aD := mv I aw; have aA := mv I au; have cR := mv I bU; have bQ := ak (aa); clear J aa I aw au bU)
    | ((with_reducible refine av (N := 12) rfl ?_); refine ay rfl 57 (.tmp 3) rfl gX rfl _ _ _ aA.out Try.underlying57 rfl 68 (by kernel_rfl) (ag _ _ _ _ _ HL.out) ?_)
    | (go_at_call 48; refine (dW b HK.out _ _ ⟨A, c, A', c', rfl, HR.out.below aD.out⟩).mono ?_; rintro e W4 ⟨rfl, I⟩; rw [HRT.out]; have aW := mv I aD; have aV := mv I aA; have dd := mv I cR; have bb := mv I bQ; clear I aD aA cR bQ)
    | ((with_reducible refine av (N := 16) rfl ?_); refine fo (by rfl) ?_; refine ay rfl 85 (.tmp 5) rfl gA rfl _ _ _ dd.out Try.underlying85 rfl 2 (by kernel_rfl) rfl ?_)
    | (go_at_call 88; refine (jF a _).mono ?_; rintro e W5 ⟨rfl, I⟩; rw [HMY.out]; have bf := mv I aW; have a9 := mv I aV; have eg := mv I dd; have bu := mv I bb; clear I aW aV dd bb)
    | (refine fw rfl 57 #[] rfl a7 lp ?_)
    | (refine aN rfl 57 (.tmp 6) (.tmp 24) rfl gZ a7 rfl rfl 57 _ bu.out 68 (by kernel_rfl) rfl rfl ja ?_; intro W6 aa J; have bD := gb bf bO J; have bj := gn a9 aG J; have e6 := gx eg bu J; have bT := ak (aa); clear aa J bf a9 eg bu))
   exact bodyPost_ret (iq rfl _ _ gZ 57 _ (0, 0) _ rfl bT.out Try.underlying57 rfl (by simp only [List.size_toArray]; exact b9 _ rfl)) rfl ⟨_, _, rfl, m2 _ _, Kd.R_nil _ _ _ _ _, bD.out⟩
  | true =>
   have HMY := ak hm
   rw [hrt, hm] at hno
   have hneg : n < 0 := by
    simp at hno
    omega
   have hd : decide (n < 0) = true := decide_eq_true hneg
   clear hrt hno hm
   go_enter Try.func49, Try.ntmps49
   go_wp2_with (first
    | (refine aE rfl 57 (.tmp 0) rfl _ rfl ?_; intro gX W1 J aa I; have bS := ge ae J; have aj := ak (ae.out.trans (I.mono ae.out.size)); have ah := ak (aa); clear J aa I ae)
    | (refine aE rfl 85 (.tmp 2) rfl _ rfl ?_; intro gA W2 J aa I; have kj := ge aj J; have eJ := ne ah J; have aw := mv I aj; have au := mv I ah; have bU := ak (aa); clear J aa I aj ah)
    | (refine ax (some 6) rfl rfl 57 rfl a7 bJ ?_; intro gZ W3 J aa I; have bO := ge aw J; have aG := ne au J; have gh := ne bU J; have aD := mv I aw; have aA := mv I au; have cR := mv I bU; have bQ := ak (aa); clear J aa I aw au bU)
    | ((with_reducible refine av (N := 12) rfl ?_); refine ay rfl 57 (.tmp 3) rfl gX rfl _ _ _ aA.out Try.underlying57 rfl 68 (by kernel_rfl) (ag _ _ _ _ _ HL.out) ?_)
    | (go_at_call 48; refine (dW b HK.out _ _ ⟨A, c, A', c', rfl, HR.out.below aD.out⟩).mono ?_; rintro e W4 ⟨rfl, I⟩; rw [HRT.out]; have aW := mv I aD; have aV := mv I aA; have dd := mv I cR; have bb := mv I bQ; clear I aD aA cR bQ)
    | ((with_reducible refine av (N := 16) rfl ?_); refine fo (by rfl) ?_; refine ay rfl 85 (.tmp 5) rfl gA rfl _ _ _ dd.out Try.underlying85 rfl 2 (by kernel_rfl) rfl ?_)
    | (go_at_call 88; refine (jF a _).mono ?_; rintro e W5 ⟨rfl, I⟩; rw [HMY.out]; have bf := mv I aW; have a9 := mv I aV; have eg := mv I dd; have bu := mv I bb; clear I aW aV dd bb)
    | (refine fw rfl 57 #[] rfl a7 lp ?_)
    | (refine aN rfl 57 (.tmp 6) (.tmp 24) rfl gZ a7 rfl rfl 57 _ bu.out 68 (by kernel_rfl) rfl rfl ja ?_; intro W6 aa J; have bD := gb bf bO J; have bj := gn a9 aG J; have e6 := gx eg bu J; have bT := ak (aa); clear aa J bf a9 eg bu))
   exact bodyPost_ret (iq rfl _ _ gZ 57 _ (0, 0) _ rfl bT.out Try.underlying57 rfl (by simp only [List.size_toArray]; exact b9 _ rfl)) rfl ⟨_, _, rfl, m2 _ _, Kd.R_nil _ _ _ _ _, bD.out⟩
end Go.Proofs.Ytemhalnhbgkbcaa.V
end

