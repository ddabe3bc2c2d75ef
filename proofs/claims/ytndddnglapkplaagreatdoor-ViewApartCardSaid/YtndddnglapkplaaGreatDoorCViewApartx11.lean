/- The law ViewApart for every input: texts of ours, put together (part 12 of 16). No further condition. -/
import Derived.Test.YtndddnglapkplaaGreatDoorCViewApartx2
import Derived.Test.YtndddnglapkplaaGreatDoorCViewApartx5
import Derived.Test.YtndddnglapkplaaGreatDoorCViewApartx9
import Derived.Outline
import Derived.Test.YtndddnglapkplaaGreatDoorCViewApartx3
import Derived.Test.YtndddnglapkplaaGreatDoorCViewApartx10
import Derived.Test.YtndddnglapkplaaGreatDoorCViewApartx4
set_option linter.unusedVariables false
set_option linter.unusedSimpArgs false
open Go.RowKit Go.Proofs.YtndddnglapkplaaGreatDoorW.PrintWords Go.Proofs.YtndddnglapkplaaGreatDoorW.PrintLast Go.Proofs.YtndddnglapkplaaGreatDoorW.PrintMore Go.Proofs.YtndddnglapkplaaGreatDoor.Z
section
namespace Go.Proofs.YtndddnglapkplaaGreatDoor.V
structure Rr (W : World) (g : Nat) (ok : Nat → Prop) (A : Option Addr) (c : Nat) (L : List Int) (n : Nat) (bad : Bool) : Prop where
 box : bS W g [.slice A L.length c, .int .i64 (n : Int), .bool bad] 150
 bs : Kd.F (Kd.int .u8) W ok A L.length L
 hc : L.length ≤ c
 hn : n ≤ L.length
 hl : L.length ≤ 1000000
 ng : ∀ k, ok k → k ≠ g
def pG.T3 : Bool × List (List Nat × List Nat) := (true, [([], []), ([0], [0]), ([1], [1]), ([2], [2]), ([3], [3]), ([], []), ([5], [5]), ([6], [6]), ([7], [7]), ([4, 8], [4, 8]), ([9, 0, 1, 2, 3, 4, 5, 6, 7, 8, 9], [9])])
def pG.B3 : List Nat := [0, 1, 3, 7, 15, 0, 32, 96, 224, 511, 1023]
theorem pG.tab3 : dS .any (opsOf Tryz.f67 3) = pG.T3 := by kernel_rfl
theorem pG.bits3 : ew pG.T3.2 pG.B3 = true := by kernel_rfl
theorem Ga {g : Nat} {ok : Nat → Prop} {A : Option Addr} {c : Nat} {L : List Int} {n : Nat} {bad : Bool} (W : World) (h : Rr W g ok A c L n bad) :
  Calls Tryz.prog 67 #[.pointer (some ⟨g, 0, none⟩)] W fun e W' => e = .returned (.int .i64 (if bad = true then 0 else ((L.drop n).length : Int))) ∧ Below W.heap.size W W' := by
 have h0 := h.box.cell 0 _ rfl
 have h1 := h.box.cell 1 _ rfl
 have h2 := h.box.cell 2 _ rfl
 have hn := h.hn
 have hl := h.hl
 clear h
 cases bad with
 | true =>
  go_enter Tryz.func67, Tryz.ntmps67
  go_wp2
  go_ret
  exact ⟨rfl, Below.refl _ _⟩
 | false =>
  have hw : IntKind.i64.wrap ((L.length : Int) - (n : Int)) = ((L.drop n).length : Int) := by
   rw [List.length_drop, IntKind.wrap_i64]; omega
  go_enter Tryz.func67, Tryz.ntmps67
  go_wp2
  refine ee (n := 11) (S := fun w' => w'.cell? ⟨g, 0, none⟩ = some (.slice A L.length c) ∧ w'.cell? ⟨g, 1, none⟩ = some (.int .i64 (n : Int))) (ds := []) #[false, false, false, false, false, false, false, false, false, false, false] (by kernel_rfl) rfl rfl ⟨h0, h1⟩ (fun hHeld => ?_); refine cV pG.tab3 pG.bits3 (fun an cj => ?_)
  refine pu 0 an.out ?_
  refine pu 1 an.out ?_
  refine pu 2 an.out ?_
  refine tk 3 an.out cj.out hHeld ?_ (hv := by intro w' dg; obtain ⟨s0, s1⟩ := dg; go_simp; with_reducible rfl)
  refine pu 4 an.out ?_
  refine pu 5 an.out ?_
  refine pu 6 an.out ?_
  refine pu 7 an.out ?_
  refine tk 8 an.out cj.out hHeld ?_ (hv := by intro w' dg; obtain ⟨s0, s1⟩ := dg; go_simp; with_reducible rfl)
  refine pu 9 an.out ?_
  refine pu 10 an.out ?_
  refine dn an.out ?_
  try go_wp2
  go_ret
  exact ⟨by simp [hw], dq (Below.refl _ _)⟩
def mu.T1 : Bool × List (List Nat × List Nat) := (true, [([], []), ([0], [0]), ([1], [1]), ([2], [2]), ([3], [3]), ([4], [4]), ([5, 4], [4, 5]), ([4, 6], [4, 6]), ([7, 4], [7]), ([8], [8]), ([8], [8]), ([10, 8], [8, 10]), ([11, 8], [8, 11]), ([12, 8], [8, 12]), ([13, 8], [8, 13]), ([8], [8]), ([15, 8], [8, 15]), ([16, 8], [8, 16]), ([17, 8], [8, 17]), ([14, 18, 8], [8, 14, 18]), ([9, 19, 8], [8, 9, 19]), ([8, 20], [8, 20])])
def mu.B1 : List Nat := [0, 1, 3, 7, 15, 31, 63, 127, 255, 511, 511, 1535, 3583, 7679, 15871, 511, 33279, 98815, 229887, 523775, 1048575, 2097151]
theorem mu.tab1 : dS .any (opsOf Tryz.f66 1) = mu.T1 := by kernel_rfl
theorem mu.bits1 : ew mu.T1.2 mu.B1 = true := by kernel_rfl
theorem Dc {g : Nat} {ok : Nat → Prop} {A : Option Addr} {c : Nat} {L : List Int} {n : Nat} (m : Int) (W : World) (h : Rr W g ok A c L n true) :
  Calls Tryz.prog 66 #[.pointer (some ⟨g, 0, none⟩), .int .i64 m] W fun e W' => e = .returned (.slice none 0 0) ∧ Rr W' g ok A c L n true ∧ W.grownBy W' (some g) := by
 have H := ak h
 have h2 := h.box.cell 2 _ rfl
 have rX : W.drew.cell? ⟨g, 2, none⟩ = some (.bool true) := h2
 have zr := (show bS W.drew g _ _ from h.box).frozen 2
 clear h
 go_enter Tryz.func66, Tryz.ntmps66
 go_wp2
 refine ee (n := 22) (S := fun w' => w'.cell? ⟨g, 2, none⟩ = some (.bool true)) (ds := []) #[false, false, false, false, false, false, false, false, false, false, false, false, false, false, false, false, false, false, false, false, false, false] (by kernel_rfl) rfl rfl rX (fun hHeld => ?_); refine cV mu.tab1 mu.bits1 (fun an cj => ?_)
 refine pu 0 an.out ?_
 refine pu 1 an.out ?_
 refine pu 2 an.out ?_
 refine tk 3 an.out cj.out hHeld ?_
 refine pu 4 an.out ?_
 refine po 5 an.out ?_
 refine po 6 an.out ?_
 refine pu 7 an.out ?_
 refine pu 8 an.out ?_
 refine po 9 an.out ?_
 refine po 10 an.out ?_
 refine po 11 an.out ?_
 refine po 12 an.out ?_
 refine po 13 an.out ?_
 refine po 14 an.out ?_
 refine po 15 an.out ?_
 refine po 16 an.out ?_
 refine po 17 an.out ?_
 refine po 18 an.out ?_
 refine po 19 an.out ?_
 refine po 20 an.out ?_
 refine pu 21 an.out ?_
 refine dn an.out ?_
 go_wp2
 go_ret
 refine ⟨rfl, ⟨?_, Kd.F_drew (Kd.F_far (p := ⟨g, 2, none⟩) H.out.bs (fun k hk => H.out.ng k hk) _), H.out.hc, H.out.hn, H.out.hl, H.out.ng⟩, ?_⟩
 ·exact (show bS (W.setCell ⟨g, 2, none⟩ (.bool true)) g _ _ from H.out.box.set 2 (.bool true))
 ·exact (cS W g 2 (.bool true)).trans (df (dq (Below.refl _ _)) _)
def k6.T1 : Bool × List (List Nat × List Nat) := (true, [([], []), ([0], [0]), ([1], [1]), ([2], [2]), ([3], [3]), ([4], [4]), ([5, 4], [4, 5]), ([4, 6], [4, 6]), ([7, 4], [7]), ([8], [8]), ([8], [8]), ([10, 8], [8, 10]), ([11, 8], [8, 11]), ([12, 8], [8, 12]), ([13, 8], [8, 13]), ([8], [8]), ([15, 8], [8, 15]), ([16, 8], [8, 16]), ([17, 8], [8, 17]), ([14, 18, 8], [8, 14, 18]), ([9, 19, 8], [8, 9, 19]), ([8, 20], [8, 20])])
def k6.B1 : List Nat := [0, 1, 3, 7, 15, 31, 63, 127, 255, 511, 511, 1535, 3583, 7679, 15871, 511, 33279, 98815, 229887, 523775, 1048575, 2097151]
theorem k6.tab1 : dS .any (opsOf Tryz.f66 1) = k6.T1 := by kernel_rfl
theorem k6.bits1 : ew k6.T1.2 k6.B1 = true := by kernel_rfl
theorem Db {g : Nat} {ok : Nat → Prop} {A : Option Addr} {c : Nat} {L : List Int} {n : Nat} (m : Nat) (W : World) (hm : L.length < n + m) (h : Rr W g ok A c L n false) :
  Calls Tryz.prog 66 #[.pointer (some ⟨g, 0, none⟩), .int .i64 (m : Int)] W fun e W' => e = .returned (.slice none 0 0) ∧ Rr W' g ok A c L n true ∧ W.grownBy W' (some g) := by
 have H := ak h
 have xR : W.drew.cell? ⟨g, 0, none⟩ = some (.slice A L.length c) := h.box.cell 0 _ rfl
 have LI : W.drew.cell? ⟨g, 1, none⟩ = some (.int .i64 (n : Int)) := h.box.cell 1 _ rfl
 have rX : W.drew.cell? ⟨g, 2, none⟩ = some (.bool false) := h.box.cell 2 _ rfl
 have zr := (show bS W.drew g _ _ from h.box).frozen 2
 have hn := h.hn
 have hl := h.hl
 have b1 : decide ((m : Int) < 0) = false := by simp
 have b2 : decide (((L.length - n : Nat) : Int) < (m : Int)) = true := by simp; omega
 have b3 : decide ((m : Int) > ((L.length - n : Nat) : Int)) = true := by simp; omega
 have hw : IntKind.i64.wrap ((L.length : Int) - (n : Int)) = ((L.length - n : Nat) : Int) := by
  rw [IntKind.wrap_i64]; omega
 clear h
 go_enter Tryz.func66, Tryz.ntmps66
 go_wp2
 refine ee (n := 22) (S := fun w' => w'.cell? ⟨g, 0, none⟩ = some (.slice A L.length c) ∧ w'.cell? ⟨g, 1, none⟩ = some (.int .i64 (n : Int)) ∧ w'.cell? ⟨g, 2, none⟩ = some (.bool false)) (ds := []) #[false, false, false, false, false, false, false, false, false, false, false, false, false, false, false, false, false, false, false, false, false, false] (by kernel_rfl) rfl rfl ⟨xR, LI, rX⟩ (fun hHeld => ?_); refine cV k6.tab1 k6.bits1 (fun an cj => ?_)
 refine pu 0 an.out ?_
 refine pu 1 an.out ?_
 refine pu 2 an.out ?_
 refine tk 3 an.out cj.out hHeld ?_ (hv := by intro w' dg; obtain ⟨s0, s1, s2⟩ := dg; go_simp; with_reducible rfl)
 refine pu 4 an.out ?_
 refine pu 5 an.out ?_
 refine pu 6 an.out ?_
 refine pu 7 an.out ?_
 refine pu 8 an.out ?_
 refine pu 9 an.out ?_
 refine pu 10 an.out ?_
 refine pu 11 an.out ?_
 refine pu 12 an.out ?_
 refine tk 13 an.out cj.out hHeld ?_ (hv := by intro w' dg; obtain ⟨s0, s1, s2⟩ := dg; go_simp; with_reducible rfl)
 refine pu 14 an.out ?_
 refine pu 15 an.out ?_
 refine pu 16 an.out ?_
 refine pu 17 an.out ?_
 refine tk 18 an.out cj.out hHeld ?_ (hv := by intro w' dg; obtain ⟨s0, s1, s2⟩ := dg; go_simp; with_reducible rfl)
 refine pu 19 an.out ?_
 refine pu 20 an.out ?_
 refine pu 21 an.out ?_
 refine dn an.out ?_
 go_wp2
 go_ret
 refine ⟨rfl, ⟨?_, Kd.F_drew (Kd.F_far (p := ⟨g, 2, none⟩) H.out.bs (fun k hk => H.out.ng k hk) _), H.out.hc, H.out.hn, H.out.hl, H.out.ng⟩, ?_⟩
 ·exact (show bS (W.setCell ⟨g, 2, none⟩ (.bool true)) g _ _ from H.out.box.set 2 (.bool true))
 ·exact (cS W g 2 (.bool true)).trans (df (dq (Below.refl _ _)) _)
end Go.Proofs.YtndddnglapkplaaGreatDoor.V
end

section
namespace Go.Proofs.YtndddnglapkplaaGreatDoor.V
theorem Mf (A : Option Addr) (n c l h : Nat) (h1 : l ≤ h) (h2 : h ≤ c) : ∀ W : World, (Instr.slice 61 (.slice A n c) (some (.int .i64 (l : Int))) (some (.int .i64 (h : Int))) none).run Tryz.prog W = .ok (.slice (if c = l then A else A.map (·.add (l * 1))) (h - l) (c - l)) W := by
 intro W
 obtain ⟨i, hi, hz⟩ := Option.map_eq_some_iff.1 iU
 simp only [Prod.mk.injEq] at hz
 have hel : Tryz.prog.elem 61 = 5 := by simp [Program.elem, Tryz.underlying61]
 have hu : Tryz.prog.underlying 61 = some (.slice (Tryz.prog.elem 61)) := by rw [hel]; exact Tryz.underlying61
 rw [run_slice_lh W 61 A n c hu .i64 .i64 l h (by omega) (by omega) (by omega), hel]
 simp [sizeOf, typeInfo, hi, sliced, Result.andThen, hz.2.1]
theorem GR {W : World} {ok : Nat → Prop} {A : Option Addr} {L : List Int} {c : Nat} (hF : Kd.F (Kd.int .u8) W ok A L.length L) (n m : Nat) (hm : n + m ≤ L.length) (hc : L.length ≤ c) : Kd.V (Kd.int .u8) 5 W 0 ok (.slice (if c = n then A else A.map (·.add (n * 1))) m (c - n)) ((L.drop n).take m) := by
 have h1 := Kd.F_cut (c := c) hF (show n ≤ L.length by omega) hc
 have h2 := Kd.F_take h1 (show m ≤ (L.drop n).length by rw [List.length_drop]; omega)
 have hl : ((L.drop n).take m).length = m := by rw [List.length_take, List.length_drop]; omega
 refine ⟨_, c - n, by rw [hl]; rfl, by rw [hl]; omega, h2⟩
def k8.T1 : Bool × List (List Nat × List Nat) := (true, [([], []), ([0], [0]), ([1], [1]), ([2], [2]), ([3], [3]), ([4], [4]), ([5, 4], [4, 5]), ([4, 6], [4, 6]), ([7, 4], [7]), ([8], [8]), ([8], [8]), ([10, 8], [8, 10]), ([11, 8], [8, 11]), ([12, 8], [8, 12]), ([13, 8], [8, 13]), ([8], [8]), ([15, 8], [8, 15]), ([16, 8], [8, 16]), ([17, 8], [8, 17]), ([14, 18, 8], [8, 14, 18]), ([9, 19, 8], [8, 9, 19]), ([8, 20], [8, 20])])
def k8.B1 : List Nat := [0, 1, 3, 7, 15, 31, 63, 127, 255, 511, 511, 1535, 3583, 7679, 15871, 511, 33279, 98815, 229887, 523775, 1048575, 2097151]
theorem k8.tab1 : dS .any (opsOf Tryz.f66 1) = k8.T1 := by kernel_rfl
theorem k8.bits1 : ew k8.T1.2 k8.B1 = true := by kernel_rfl
def k7.T5 : Bool × List (List Nat × List Nat) := (true, [([], []), ([0], [0]), ([1], [1]), ([2], [2]), ([], []), ([4], [4]), ([5], [5]), ([6], [6]), ([], []), ([7, 8], [7, 8]), ([], []), ([10], [10]), ([11], [11]), ([12], [12]), ([3, 9, 13], [3, 9, 13]), ([14, 0, 1, 2, 3, 4, 5, 6, 7, 8, 9, 10, 11, 12, 13, 14], [14])])
def k7.B5 : List Nat := [0, 1, 3, 7, 0, 16, 48, 112, 0, 496, 0, 1024, 3072, 7168, 16383, 32767]
theorem k7.tab5 : dS .any (opsOf Tryz.f66 5) = k7.T5 := by kernel_rfl
theorem k7.bits5 : ew k7.T5.2 k7.B5 = true := by kernel_rfl
set_option maxHeartbeats 1000000 in
theorem Bg {g : Nat} {ok : Nat → Prop} {A : Option Addr} {c : Nat} {L : List Int} {n : Nat} (m : Nat) (W : World) (hm : n + m ≤ L.length) (h : Rr W g ok A c L n false) :
  Calls Tryz.prog 66 #[.pointer (some ⟨g, 0, none⟩), .int .i64 (m : Int)] W fun e W' => ∃ u, e = .returned u ∧ Kd.V (Kd.int .u8) 5 W' 0 ok u ((L.drop n).take m) ∧ Rr W' g ok A c L (n + m) false ∧ W.grownBy W' (some g) := by
 have H := ak h
 have xR : W.drew.cell? ⟨g, 0, none⟩ = some (.slice A L.length c) := h.box.cell 0 _ rfl
 have LI : W.drew.cell? ⟨g, 1, none⟩ = some (.int .i64 (n : Int)) := h.box.cell 1 _ rfl
 have rX : W.drew.cell? ⟨g, 2, none⟩ = some (.bool false) := h.box.cell 2 _ rfl
 have zs := (show bS W.drew g _ _ from h.box).frozen 1
 have hn := h.hn
 have hl := h.hl
 have b1 : decide ((m : Int) < 0) = false := by simp
 have b2 : decide (((L.length - n : Nat) : Int) < (m : Int)) = false := by simp; omega
 have b3 : decide ((m : Int) > ((L.length - n : Nat) : Int)) = false := by simp; omega
 have hw : IntKind.i64.wrap ((L.length : Int) - (n : Int)) = ((L.length - n : Nat) : Int) := by
  rw [IntKind.wrap_i64]; omega
 have PE : wrap64 (n : Int) = (n : Int) := bM _ (by omega) (by omega)
 have hX : bS (W.setCell ⟨g, 1, none⟩ (.int .i64 ((n : Int) + (m : Int)))) g [.slice A L.length c, .int .i64 ((n : Int) + (m : Int)), .bool false] 150 := h.box.set 1 _
 have PS : (W.drew.setCell ⟨g, 1, none⟩ (.int .i64 ((n : Int) + (m : Int)))).drew.cell? ⟨g, 0, none⟩ = some (.slice A L.length c) := hX.cell 0 _ rfl
 have BL : (W.drew.setCell ⟨g, 1, none⟩ (.int .i64 ((n : Int) + (m : Int)))).drew.cell? ⟨g, 1, none⟩ = some (.int .i64 ((n : Int) + (m : Int))) := hX.cell 1 _ rfl
 have HE := ak (And.intro PS BL)
 have HX := ak hX
 have q := Mf A L.length c n (n + m) (by omega) (by have := h.hc; omega)
 rw [Nat.add_sub_cancel_left, Int.natCast_add] at q
 have hv := GR h.bs n m hm h.hc
 obtain ⟨A2, EX⟩ : ∃ A2, A2 = (if c = n then A else A.map (·.add (n * 1))) := ⟨_, rfl⟩
 rw [← EX] at q hv
 have HV := ak hv
 have hcast : ((n : Int) + (m : Int)) = ((n + m : Nat) : Int) := by omega
 have HC := ak hcast
 clear h hX PS BL EX hv hcast
 go_enter Tryz.func66, Tryz.ntmps66
 go_wp2
 refine ee (n := 22) (S := fun w' => w'.cell? ⟨g, 0, none⟩ = some (.slice A L.length c) ∧ w'.cell? ⟨g, 1, none⟩ = some (.int .i64 (n : Int)) ∧ w'.cell? ⟨g, 2, none⟩ = some (.bool false)) (ds := []) #[false, false, false, false, false, false, false, false, false, false, false, false, false, false, false, false, false, false, false, false, false, false] (by kernel_rfl) rfl rfl ⟨xR, LI, rX⟩ (fun hHeld => ?_); refine cV k8.tab1 k8.bits1 (fun an cj => ?_)
 refine pu 0 an.out ?_
 refine pu 1 an.out ?_
 refine pu 2 an.out ?_
 refine tk 3 an.out cj.out hHeld ?_ (hv := by intro w' dg; obtain ⟨s0, s1, s2⟩ := dg; go_simp; with_reducible rfl)
 refine pu 4 an.out ?_
 refine pu 5 an.out ?_
 refine pu 6 an.out ?_
 refine pu 7 an.out ?_
 refine pu 8 an.out ?_
 refine pu 9 an.out ?_
 refine pu 10 an.out ?_
 refine pu 11 an.out ?_
 refine pu 12 an.out ?_
 refine tk 13 an.out cj.out hHeld ?_ (hv := by intro w' dg; obtain ⟨s0, s1, s2⟩ := dg; go_simp; with_reducible rfl)
 refine pu 14 an.out ?_
 refine pu 15 an.out ?_
 refine pu 16 an.out ?_
 refine pu 17 an.out ?_
 refine tk 18 an.out cj.out hHeld ?_ (hv := by intro w' dg; obtain ⟨s0, s1, s2⟩ := dg; go_simp; with_reducible rfl)
 refine pu 19 an.out ?_
 refine pu 20 an.out ?_
 refine pu 21 an.out ?_
 refine dn an.out ?_
 go_wp2
 refine ee (n := 16) (S := fun w' => w'.cell? ⟨g, 0, none⟩ = some (.slice A L.length c) ∧ w'.cell? ⟨g, 1, none⟩ = some (.int .i64 ((n : Int) + (m : Int)))) (ds := []) #[false, false, false, false, false, false, false, false, false, false, false, false, false, false, false, false] (by kernel_rfl) rfl rfl HE.out (fun hHeld => ?_); refine cV k7.tab5 k7.bits5 (fun an cj => ?_)
 refine pu 0 an.out ?_
 refine pu 1 an.out ?_
 refine pu 2 an.out ?_
 refine tk 3 an.out cj.out hHeld ?_ (hv := by intro w' dg; obtain ⟨s0, s1⟩ := dg; go_simp; with_reducible rfl)
 refine pu 4 an.out ?_
 refine pu 5 an.out ?_
 refine pu 6 an.out ?_
 refine tk 7 an.out cj.out hHeld ?_ (hv := by intro w' dg; obtain ⟨s0, s1⟩ := dg; go_simp; with_reducible rfl)
 refine pu 8 an.out ?_
 refine pu 9 an.out ?_
 refine pu 10 an.out ?_
 refine pu 11 an.out ?_
 refine pu 12 an.out ?_
 refine tk 13 an.out cj.out hHeld ?_ (hv := by intro w' dg; obtain ⟨s0, s1⟩ := dg; go_simp; with_reducible rfl)
 refine pu 14 an.out ?_
 refine pu 15 an.out ?_
 refine dn an.out ?_
 try go_wp2
 go_ret
 have bC : Below (W.setCell ⟨g, 1, none⟩ (.int .i64 ((n : Int) + (m : Int)))).heap.size (W.setCell ⟨g, 1, none⟩ (.int .i64 ((n : Int) + (m : Int)))) (W.setCell ⟨g, 1, none⟩ (.int .i64 ((n : Int) + (m : Int)))).drew.drew := dq (dq (Below.refl _ _))
 refine ⟨_, rfl, Kd.V_below (Kd.V_far (p := ⟨g, 1, none⟩) HV.out (fun k hk => H.out.ng k hk) _) bC, ⟨?_, Kd.F_below (Kd.F_far (p := ⟨g, 1, none⟩) H.out.bs (fun k hk => H.out.ng k hk) _) bC, H.out.hc, by omega, H.out.hl, H.out.ng⟩, (cS W g 1 _).trans (df bC _)⟩
 rw [← HC.out]
 exact HX.out.below bC
def Rq (W : World) (g : Nat) (ok : Nat → Prop) (l : List Int) (bad : Bool) : Prop := ∃ A c L n, Rr W g ok A c L n bad ∧ L.drop n = l
section
variable {W W1 : World} {g : Nat} {ok : Nat → Prop} {l : List Int} {bad : Bool}
theorem Rq.below (h : Rq W g ok l bad) (hb : Below W.heap.size W W1) : Rq W1 g ok l bad := by
 obtain ⟨A, c, L, n, h, e⟩ := h
 exact ⟨A, c, L, n, ⟨h.box.below hb, Kd.F_below h.bs hb, h.hc, h.hn, h.hl, h.ng⟩, e⟩
theorem Rq.grown (h : Rq W g ok l bad) {row : Option Nat} (hg : W.grownBy W1 row) (hr : ∀ k, ok k → some k ≠ row) (hn : some g ≠ row) : Rq W1 g ok l bad := by
 obtain ⟨A, c, L, n, h, e⟩ := h
 exact ⟨A, c, L, n, ⟨h.box.grown hg hn, Kd.F_grown h.bs hg hr, h.hc, h.hn, h.hl, h.ng⟩, e⟩
theorem Rq.lt (h : Rq W g ok l bad) : g < W.heap.size := by
 obtain ⟨A, c, L, n, h, e⟩ := h
 exact h.box.lt
end
theorem mQ {g : Nat} {ok : Nat → Prop} {l : List Int} {bad : Bool} (m : Nat) (W : World) (h : Rq W g ok l bad) :
  Calls Tryz.prog 66 #[.pointer (some ⟨g, 0, none⟩), .int .i64 (m : Int)] W fun e W' => ∃ u, e = .returned u ∧ Kd.V (Kd.int .u8) 5 W' 0 ok u (aT l bad m).1 ∧ Rq W' g ok (aT l bad m).2.1 (aT l bad m).2.2 ∧ W.grownBy W' (some g) := by
 obtain ⟨A, c, L, n, h, rfl⟩ := h
 have hn := h.hn
 cases bad with
 | true =>
  have e : aT (L.drop n) true m = ([], L.drop n, true) := rfl
  rw [e]
  refine (Dc (m : Int) W h).mono ?_
  rintro e W' ⟨rfl, hr, hg⟩
  exact ⟨_, rfl, Kd.V_nil _ _ _ _ _, ⟨A, c, L, n, hr, rfl⟩, hg⟩
 | false =>
  by_cases hm : n + m ≤ L.length
  ·have e : aT (L.drop n) false m = ((L.drop n).take m, (L.drop n).drop m, false) := by
    unfold aT
    rw [if_pos ⟨rfl, by omega, by rw [List.length_drop]; omega⟩, Int.toNat_natCast]
   rw [e]
   refine (Bg m W hm h).mono ?_
   rintro e W' ⟨u, rfl, hv, hr, hg⟩
   exact ⟨_, rfl, hv, ⟨A, c, L, n + m, hr, by rw [List.drop_drop]⟩, hg⟩
  ·have e : aT (L.drop n) false m = ([], L.drop n, true) := by
    unfold aT
    rw [if_neg]
    rintro ⟨_, _, h3⟩
    rw [List.length_drop] at h3
    omega
   rw [e]
   refine (Db m W (by omega) h).mono ?_
   rintro e W' ⟨rfl, hr, hg⟩
   exact ⟨_, rfl, Kd.V_nil _ _ _ _ _, ⟨A, c, L, n, hr, rfl⟩, hg⟩
theorem pJ {g : Nat} {ok : Nat → Prop} {l : List Int} {bad : Bool} (W : World) (h : Rq W g ok l bad) :
  Calls Tryz.prog 67 #[.pointer (some ⟨g, 0, none⟩)] W fun e W' => e = .returned (.int .i64 (if bad = true then 0 else (l.length : Int))) ∧ Below W.heap.size W W' := by
 obtain ⟨A, c, L, n, h, rfl⟩ := h
 exact Ga W h
end Go.Proofs.YtndddnglapkplaaGreatDoor.V
end

section
namespace Go.Proofs.YtndddnglapkplaaGreatDoor.V
attribute [local go_sem] bI bG bP bO bw bu bH bF
def de.l0 : Nat → Int → List Int → Int → Int → Option (Int)
 | 0, _, _, _, _ => none
 | k + 1, x3, x6, x7, x8 => if x8 < x7 then (if 0 ≤ x8 then (if x8 < (x6.length : Int) then (de.l0 k (IntKind.u64.wrap ((IntKind.u64.wrap (x3 * 256)) + (IntKind.u64.wrap (rd x6 x8)))) x6 x7 (wrap64 (x8 + 1))) else (none)) else (none)) else (some x3)
def de.f (k : Nat) (l0 : List Int) : Option (Int) := de.l0 k 0 l0 (l0.length : Int) 0
set_option maxHeartbeats 8000000 in
set_option maxRecDepth 100000 in
theorem de.calls (k : Nat) (A0 : Option Addr) (c0 : Nat) (l0 : List Int) (r : Int) (w : World) (zf : Kd.C (Kd.int .u8) w A0 l0.length l0) (gX : l0.length ≤ c0) (h : de.f k l0 = some r) :
  Calls Tryz.prog 99 #[.slice A0 l0.length c0] w fun e w' => e = .returned (.int .u64 r) ∧ Drawn0 w w' := by
 have I6 := ak zf
 have VU := ak gX
 clear zf gX
 have H : (de.l0 k 0 l0 (l0.length : Int) 0) = some r := h
 clear h
 have H' := ak H
 clear H
 go_enter Tryz.func99, Tryz.ntmps99
 go_wp2
 go_loopg [3, 8] k (fun kq v3 v8 w' => ∃ (aw : Int) (aZ : Int), v3 = .int .u64 aw ∧ v8 = .int .i64 aZ ∧ Aside0 (de.l0 kq aw l0 (l0.length : Int) aZ = some r) ∧ Aside0 (kq ≤ k) ∧ Drawn0 w w')
 case atStart => exact ⟨(0), (0), (by first | rfl | (simp; done) | (simp [*]; done)), (by first | rfl | (simp; done) | (simp [*]; done)), H', ⟨Nat.le_refl _⟩, by repeat (first | exact Drawn0.refl _ | apply Drawn0.step)⟩
 case round =>
  clear H'
  obtain ⟨aw, aZ, rfl, rfl, HA, cC, ⟨m1, rfl⟩⟩ := hrel
  cases gk with
  | zero => exact absurd HA.out (by simp [de.l0])
  | succ k1 =>
   have H := HA.out
   clear HA
   simp only [de.l0] at H
   by_cases c2 : aZ < (l0.length : Int)
   ·rw [if_pos c2] at H
    have gY : decide (aZ < (l0.length : Int)) = true := decide_eq_true c2
    clear c2
    by_cases c3 : 0 ≤ aZ
    ·rw [if_pos c3] at H
     have gw : decide (0 ≤ aZ) = true := decide_eq_true c3
     clear c3
     by_cases c4 : aZ < (l0.length : Int)
     ·rw [if_pos c4] at H
      have fj : decide (aZ < (l0.length : Int)) = true := decide_eq_true c4
      clear c4
      have H' := ak H
      clear H
      have yU : 0 ≤ (aZ : Int) := of_decide_eq_true (by first | (with_reducible assumption) | assumption)
      have yO : aZ < (l0.length : Int) := of_decide_eq_true (by first | (with_reducible assumption) | assumption)
      obtain ⟨TY, L9, PC⟩ := Kd.at_int I6.out aZ yU yO
      cases L9
      replace yU := eq_true yU
      replace yO := eq_true yO
      go_wp2
      go_roundg k1
      case measure => have := cC.out; omega
      case rel => exact ⟨(IntKind.u64.wrap ((IntKind.u64.wrap (aw * 256)) + (IntKind.u64.wrap (rd l0 aZ)))), (wrap64 (aZ + 1)), (by first | rfl | (simp; done) | (simp [*]; done)), (by first | rfl | (simp; done) | (simp [*]; done)), H', ⟨by have := cC.out; omega⟩, by repeat (first | exact Drawn0.refl _ | apply Drawn0.step)⟩
     ·rw [if_neg c4] at H
      exact absurd H (by simp)
    ·rw [if_neg c3] at H
     exact absurd H (by simp)
   ·rw [if_neg c2] at H
    have gY : decide (aZ < (l0.length : Int)) = false := decide_eq_false c2
    clear c2
    obtain rfl := Option.some.inj H
    go_wp2
    go_ret
    exact ⟨by first | rfl | (simp; done) | (simp [*]; done), by repeat (first | exact Drawn0.refl _ | apply Drawn0.step)⟩
end Go.Proofs.YtndddnglapkplaaGreatDoor.V
end

section
namespace Go.Proofs.YtndddnglapkplaaGreatDoor.V
theorem BU (L : List Int) (hL : dK L) (hl : L.length ≤ 7) : ∀ (d j k : Nat), j + d = L.length → d < k → de.l0 k ((bj (L.take j) : Nat) : Int) L (L.length : Int) (j : Int) = some ((bj L : Nat) : Int)
 | 0, j, k, hj, hk => by
  obtain ⟨k, rfl⟩ : ∃ m, k = m + 1 := ⟨k - 1, by omega⟩
  unfold de.l0
  rw [if_neg (by omega), List.take_of_length_le (by omega)]
 | d + 1, j, k, hj, hk => by
  obtain ⟨k, rfl⟩ : ∃ m, k = m + 1 := ⟨k - 1, by omega⟩
  unfold de.l0
  have hjl : j < L.length := by omega
  rw [if_pos (by omega), if_pos (by omega), if_pos (by omega)]
  have ih := BU L hL hl d (j + 1) k (by omega) (by omega)
  have hx : L[j] = rd L j := by simp [rd, List.getD, hjl]
  have qF := iM hL (j : Int)
  have hn : bj (L.take j) < 281474976710656 := by
   have h1 := oC (l := L.take j) (fun x hx => hL x (List.mem_of_mem_take hx))
   have h2 : (256 : Nat) ^ (L.take j).length ≤ 256 ^ 6 := Nat.pow_le_pow_right (by omega) (by rw [List.length_take]; omega)
   exact Nat.lt_of_lt_of_le h1 (Nat.le_trans h2 (by decide))
  have e1 : bj (L.take (j + 1)) = bj (L.take j) * 256 + (rd L j).toNat := by
   rw [List.take_succ_eq_append_getElem hjl, xA, hx]
  have e2 : IntKind.u64.wrap (IntKind.u64.wrap (((bj (L.take j) : Nat) : Int) * 256) + IntKind.u64.wrap (rd L j)) = ((bj (L.take (j + 1)) : Nat) : Int) := by
   rw [e1]
   rw [wrap_u64 (rd L j) qF.1 (by omega), wrap_u64 (_ * 256) (by omega) (by omega), wrap_u64 _ (by omega) (by omega)]
   omega
  have e3 : wrap64 ((j : Int) + 1) = ((j + 1 : Nat) : Int) := by rw [bM _ (by omega) (by omega)]; omega
  rw [e2, e3]
  exact ih
theorem Mc {L : List Int} (hL : dK L) (hl : L.length ≤ 7) : de.f 8 L = some ((bj L : Nat) : Int) := BU L hL hl L.length 0 8 (by omega) (by omega)
set_option maxHeartbeats 1000000 in
theorem sO {g : Nat} {ok : Nat → Prop} {l : List Int} {bad : Bool} (m : Nat) (ER : 1 ≤ m) (iu : m ≤ 7) (hl : dK l) (W : World) (h : Rq W g ok l bad) :
  Calls Tryz.prog 64 #[.pointer (some ⟨g, 0, none⟩), .int .i64 (m : Int)] W fun e W' => e = .returned (.int .u64 (bj (aT l bad m).1 : Nat)) ∧ Rq W' g ok (aT l bad m).2.1 (aT l bad m).2.2 ∧ W.grownBy W' (some g) := by
 have H := ak h
 have h2 : W.cell? ⟨g, 2, none⟩ = some (.bool bad) := by
  obtain ⟨A, c, L, n, h, _⟩ := h
  exact h.box.cell 2 _ rfl
 have b1 : decide ((m : Int) < 1) = false := by simp; omega
 have b2 : decide ((m : Int) > 8) = false := by simp; omega
 have b3 : decide (8 < (m : Int)) = false := by simp; omega
 cases bad with
 | true =>
  have HE := ak (show aT l true m = ([], l, true) from rfl)
  rw [HE.out]
  clear h hl
  go_enter Tryz.func64, Tryz.ntmps64
  go_wp2
  go_ret
  exact ⟨rfl, H.out, df (Below.refl _ _) _⟩
 | false =>
  have HD := ak (fun (W : World) (h : Rq W g ok l false) => mQ m W h)
  have h7 : (aT l false m).1.length ≤ 7 := Nat.le_trans (iz l false m) iu
  have HN := ak (Mc (cO hl false m).1 h7)
  clear h7
  generalize aT l false m = p at HD HN ⊢
  obtain ⟨L, l', bad'⟩ := p
  dsimp only at HD HN ⊢
  clear h hl
  go_enter Tryz.func64, Tryz.ntmps64
  go_wp2_with (first
   | (go_at_call 66; refine (HD.out _ H.out).mono ?_; rintro e W1 ⟨u, rfl, hv, hr, hg⟩; have HR := ak hr; have HG := ak hg; obtain ⟨A, c, rfl, hc, hF⟩ := hv; have HC := ak hc; have HF := ak (Kd.F_now hF); clear hr hg hc hF)
   | (go_at_call 99; refine (de.calls 8 A c L _ _ HF.out HC.out HN.out).mono ?_; rintro e W2 ⟨rfl, ⟨nd, rfl⟩⟩))
  go_ret
  exact ⟨rfl, HR.out.below (J (Below.refl _ _) _), HG.out.trans (df (J (Below.refl _ _) _) _)⟩
theorem Gy {l : List Int} (hl : dK l) (bad : Bool) : bj (aT l bad 1).1 < 256 := mi hl bad
theorem Rq.spoil {W : World} {g : Nat} {ok : Nat → Prop} {l : List Int} {bad : Bool} (h : Rq W g ok l bad) : Rq (W.setCell ⟨g, 2, none⟩ (.bool true)) g ok l true ∧ W.grownBy (W.setCell ⟨g, 2, none⟩ (.bool true)) (some g) := by
 obtain ⟨A, c, L, n, h, e⟩ := h
 exact ⟨⟨A, c, L, n, ⟨h.box.set 2 (.bool true), Kd.F_far (p := ⟨g, 2, none⟩) h.bs (fun k hk => h.ng k hk) _, h.hc, h.hn, h.hl, h.ng⟩, e⟩, cS W g 2 (.bool true)⟩
theorem Rq.fr2 {W : World} {g : Nat} {ok : Nat → Prop} {l : List Int} {bad : Bool} (h : Rq W g ok l bad) : W.frozen? ⟨g, 2, none⟩ = false := by
 obtain ⟨A, c, L, n, h, e⟩ := h
 exact h.box.frozen 2
theorem Rq.c2 {W : World} {g : Nat} {ok : Nat → Prop} {l : List Int} {bad : Bool} (h : Rq W g ok l bad) : W.cell? ⟨g, 2, none⟩ = some (.bool bad) := by
 obtain ⟨A, c, L, n, h, e⟩ := h
 exact h.box.cell 2 _ rfl
set_option maxHeartbeats 1000000 in
theorem sP {g : Nat} {ok : Nat → Prop} {l : List Int} {bad : Bool} (hl : dK l) (W : World) (h : Rq W g ok l bad) :
  Calls Tryz.prog 65 #[.pointer (some ⟨g, 0, none⟩)] W fun e W' => e = .returned (.string (strOfNums (cH l bad).1)) ∧ Rq W' g ok (cH l bad).2.1 (cH l bad).2.2 ∧ W.grownBy W' (some g) := by
 have H := ak h
 have hn := Gy hl bad
 have HU := ak (fun (W : World) (h : Rq W g ok l bad) => sO 1 (by omega) (by omega) hl W h)
 have HT : Aside0 (cH l bad = aT (aT l bad 1).2.1 ((aT l bad 1).2.2 || decide (64 < bj (aT l bad 1).1)) (bj (aT l bad 1).1 : Nat)) := ⟨rfl⟩
 have mU : Aside0 (∀ (W : World) (h : Rq W g ok l bad), Calls Tryz.prog 64 #[.pointer (some ⟨g, 0, none⟩), .int .i64 1] W fun e W' => e = .returned (.int .u64 (bj (aT l bad 1).1 : Nat)) ∧ Rq W' g ok (aT l bad 1).2.1 (aT l bad 1).2.2 ∧ W.grownBy W' (some g)) := ⟨HU.out⟩
 clear HU
 generalize hp : aT l bad 1 = p at hn mU HT
 generalize hq : cH l bad = q at HT ⊢
 clear hp hq
 obtain ⟨L, l1, Ae⟩ := p
 dsimp only at hn mU HT
 generalize bj L = n at hn mU HT
 by_cases pH : 64 < n
 ·have b1 : decide ((n : Int) > 64) = true := by simp; omega
  have b2 : decide (64 < (n : Int)) = true := by simp; omega
  have HQ := ak (show q = aT l1 true (n : Int) by rw [HT.out, decide_eq_true pH, Bool.or_true])
  clear h hl HT
  go_enter Tryz.func65, Tryz.ntmps65
  go_wp2_with (first
   | (go_at_call 64; refine (mU.out _ H.out).mono ?_; rintro e W1 ⟨rfl, jE, dh⟩; have H1 := ak jE; have nR := ak dh; have zr := jE.fr2; have mq := jE.c2; clear jE dh)
   | (generalize PV : W1.setCell ⟨g, 2, none⟩ (.bool true) = W2; go_at_call 66; have hs := H1.out.spoil; rw [PV] at hs; refine (mQ n _ hs.1).mono ?_; have fw := ak (nR.out.trans hs.2); clear hs PV zr mq; rw [← HQ.out]; rintro e W3 ⟨u, rfl, zd, fB, dx⟩; have H3 := ak fB; have ux := ak (fw.out.trans dx); obtain ⟨A3, c3, rfl, zx, sL⟩ := zd; have hst := Kd.C_string (P := Tryz.prog) (src := 61) (dst := 9) (c := c3) Tryz.underlying61 Tryz.underlying5 Tryz.underlying9 (sL W3 (fun _ _ _ => rfl)); clear fB dx sL))
  go_ret
  exact ⟨rfl, H3.out, ux.out⟩
 ·have b1 : decide ((n : Int) > 64) = false := by simp; omega
  have b2 : decide (64 < (n : Int)) = false := by simp; omega
  have HQ := ak (show q = aT l1 Ae (n : Int) by rw [HT.out, decide_eq_false pH, Bool.or_false])
  clear h hl HT
  go_enter Tryz.func65, Tryz.ntmps65
  go_wp2_with (first
   | (go_at_call 64; refine (mU.out _ H.out).mono ?_; rintro e W1 ⟨rfl, jE, dh⟩; have H1 := ak jE; have nR := ak dh; clear jE dh)
   | (go_at_call 66; refine (mQ n _ H1.out).mono ?_; rw [← HQ.out]; rintro e W3 ⟨u, rfl, zd, fB, dx⟩; have H3 := ak fB; have ux := ak (nR.out.trans dx); obtain ⟨A3, c3, rfl, zx, sL⟩ := zd; have hst := Kd.C_string (P := Tryz.prog) (src := 61) (dst := 9) (c := c3) Tryz.underlying61 Tryz.underlying5 Tryz.underlying9 (sL W3 (fun _ _ _ => rfl)); clear fB dx sL))
  go_ret
  exact ⟨rfl, H3.out, ux.out⟩
end Go.Proofs.YtndddnglapkplaaGreatDoor.V
end

section
namespace Go.Proofs.YtndddnglapkplaaGreatDoor.V
theorem EA (f0 f1 : ByteArray) (h0 : f0.size ≤ 9223372036854775807) (h1 : f1.size ≤ 9223372036854775807) (k : Nat) (hk : 9223372036854775808 ≤ k) : eJ.f k f0 f1 = some (gE ⟨f0, f1⟩) := by
 unfold eJ.f gE
 rw [tu f0 h0 k (by omega), Option.bind_some]
 cases hr : dE f0 with
 | true => rw [if_pos rfl, tu f1 h1 k (by omega), Option.bind_some, Bool.true_and]
 | false => rw [if_neg (by decide), Bool.false_and]
theorem Ba (s : ByteArray) (hs : s.size ≤ 9223372036854775807) (k : Nat) (hk : 9223372036854775808 ≤ k) : dt.f k s = some (ko s) := by
 unfold dt.f ko
 by_cases h0 : s.toList = []
 ·rw [if_pos h0]; simp [h0]
 ·rw [if_neg h0, tu s hs k (by omega), Option.bind_some]; simp [h0]
section
variable (addr : Int) (aff : ByteArray) (sl fr : List Int) (M : List S78)
theorem Mx (hl : fr.length ≤ 1000) : ∀ (d k i : Nat), i + d = fr.length → d < k → ∃ r, al.l3 k fr (fr.length : Int) (i : Int) = some r ∧ (r = true → ∀ (j : Nat) (h : j < fr.length), i ≤ j → 0 ≤ fr[j] ∧ fr[j] ≤ 63) := by
 intro d
 induction d with
 | zero =>
  intro k i hi hk
  obtain ⟨k, rfl⟩ : ∃ m, k = m + 1 := ⟨k - 1, by omega⟩
  refine ⟨true, ?_, fun _ j h hj => by omega⟩
  rw [al.l3, if_neg (by omega)]
 | succ d ih =>
  intro k i hi hk
  obtain ⟨k, rfl⟩ : ∃ m, k = m + 1 := ⟨k - 1, by omega⟩
  have hil : i < fr.length := by omega
  rw [al.l3, if_pos (by omega), if_pos (by omega), if_pos (by omega), oM fr i hil, bM ((i : Int) + 1) (by omega) (by omega), show (i : Int) + 1 = ((i + 1 : Nat) : Int) by omega]
  by_cases h1 : fr[i] < 0
  ·exact ⟨false, by rw [if_pos h1], fun h => by cases h⟩
  ·by_cases h2 : fr[i] > 63
   ·exact ⟨false, by rw [if_neg h1, if_pos h2], fun h => by cases h⟩
   ·obtain ⟨r, hr, hc⟩ := ih k (i + 1) (by omega) (by omega)
    refine ⟨r, by rw [if_neg h1, if_neg h2, hr], fun h j hj hij => ?_⟩
    rcases Nat.eq_or_lt_of_le hij with rfl | hlt
    ·exact ⟨by omega, by omega⟩
    ·exact hc h j hj (by omega)
theorem My (hl : fr.length ≤ 1000) (hsl : sl.length ≤ 1000) (hM : M.length ≤ 1000) : ∀ (d k i : Nat), i + d = sl.length → 2 * d + fr.length + 10 < k → ∃ r, al.l2 k sl (sl.length : Int) (i : Int) addr aff sl fr M = some r ∧
  (r = true → (∀ (j : Nat) (h : j < sl.length), i ≤ j → (0 ≤ sl[j] ∧ sl[j] ≤ (M.length : Int)) ∧ fr.count (j : Int) = if sl[j] = 0 then 1 else 0) ∧ ∀ (j : Nat) (h : j < fr.length), 0 ≤ fr[j] ∧ fr[j] ≤ 63) := by
 intro d
 induction d with
 | zero =>
  intro k i hi hk
  obtain ⟨k, rfl⟩ : ∃ m, k = m + 1 := ⟨k - 1, by omega⟩
  rw [al.l2, if_neg (by omega)]
  obtain ⟨r, hr, hc⟩ := Mx fr hl fr.length k 0 (by omega) (by omega)
  exact ⟨r, hr, fun h => ⟨fun j hj hij => by omega, fun j hj => hc h j hj (by omega)⟩⟩
 | succ d ih =>
  intro k i hi hk
  obtain ⟨k, rfl⟩ : ∃ m, k = m + 2 := ⟨k - 2, by omega⟩
  have hil : i < sl.length := by omega
  rw [al.l2, if_pos (by omega), if_pos (by omega), if_pos (by omega), oM sl i hil]
  by_cases h1 : sl[i] < 0
  ·refine ⟨false, ?_, fun h => by cases h⟩
   rw [if_pos h1, al.j5, if_pos rfl]
  ·rw [if_neg h1, al.j5, tK fr hl _ k (by omega), bM ((i : Int) + 1) (by omega) (by omega), show (i : Int) + 1 = ((i + 1 : Nat) : Int) by omega]
   by_cases h2 : sl[i] > (M.length : Int)
   ·exact ⟨false, by rw [if_pos (by rw [decide_eq_true_eq]; exact h2)], fun h => by cases h⟩
   ·rw [if_neg (by rw [decide_eq_true_eq]; exact h2)]
    obtain ⟨r, hr, hc⟩ := ih k (i + 1) (by omega) (by omega)
    have step : (fr.count (i : Int) = if sl[i] = 0 then 1 else 0) → (r = true → (∀ (j : Nat) (h : j < sl.length), i ≤ j → (0 ≤ sl[j] ∧ sl[j] ≤ (M.length : Int)) ∧ fr.count (j : Int) = if sl[j] = 0 then 1 else 0) ∧ ∀ (j : Nat) (h : j < fr.length), 0 ≤ fr[j] ∧ fr[j] ≤ 63) := by
     intro he h
     obtain ⟨c1, c2⟩ := hc h
     refine ⟨fun j hj hij => ?_, c2⟩
     rcases Nat.eq_or_lt_of_le hij with rfl | hlt
     ·exact ⟨⟨by omega, by omega⟩, he⟩
     ·exact c1 j hj (by omega)
    by_cases h0 : sl[i] = 0
    ·rw [if_pos h0, Option.bind_some]
     by_cases h3 : fr.count (i : Int) = 1
     ·exact ⟨r, by rw [if_pos (by rw [h3]; rfl), hr], step (by rw [if_pos h0]; exact h3)⟩
     ·exact ⟨false, by rw [if_neg (by omega)], fun h => by cases h⟩
    ·rw [if_neg h0, Option.bind_some]
     by_cases h3 : fr.count (i : Int) = 0
     ·exact ⟨r, by rw [if_pos (by rw [h3]; rfl), hr], step (by rw [if_neg h0]; exact h3)⟩
     ·exact ⟨false, by rw [if_neg (by omega)], fun h => by cases h⟩
theorem Mz (i : Nat) (hi : i ≤ M.length) (hM : M.length ≤ 64) (f0 f1 : ByteArray) : ∀ (d k q : Nat), q + d = i →
  al.l1 (k + d + 1) M (M.length : Int) (i : Int) (M.take i) ((M.take i).length : Int) (q : Int) addr aff sl fr M f0 f1 = some false ∨
  (al.l1 (k + d + 1) M (M.length : Int) (i : Int) (M.take i) ((M.take i).length : Int) (q : Int) addr aff sl fr M f0 f1 = al.l0 k M (M.length : Int) ((i + 1 : Nat) : Int) addr aff sl fr M ∧
   ∀ (j : Nat) (h : j < (M.take i).length), q ≤ j → ((M.take i)[j].f0.toList == f0.toList && (M.take i)[j].f1.toList == f1.toList) = false) := by
 have hlen : (M.take i).length = i := by rw [List.length_take]; omega
 intro d
 induction d with
 | zero =>
  intro k q hq
  right
  refine ⟨?_, fun j hj hqj => by omega⟩
  rw [al.l1, if_neg (by omega), bM ((i : Int) + 1) (by omega) (by omega), show (i : Int) + 1 = ((i + 1 : Nat) : Int) by omega]
 | succ d ih =>
  intro k q hq
  have hqi : q < (M.take i).length := by omega
  have e : bc (M.take i) (q : Int) = (M.take i)[q] := by
   unfold bc
   rw [Int.toNat_natCast, List.getD, List.getElem?_eq_getElem hqi]
   rfl
  rw [show k + (d + 1) + 1 = (k + d + 1) + 1 by omega, al.l1, if_pos (by omega), if_pos (by omega), if_pos (by omega), e, bM ((q : Int) + 1) (by omega) (by omega), show (q : Int) + 1 = ((q + 1 : Nat) : Int) by omega]
  cases hx : ((M.take i)[q].f0.toList == f0.toList && (M.take i)[q].f1.toList == f1.toList) with
  | true => left; rw [if_pos rfl]
  | false =>
   rw [if_neg (by decide)]
   rcases ih k (q + 1) (by omega) with h | ⟨h, hc⟩
   ·exact .inl h
   ·refine .inr ⟨h, fun j hj hqj => ?_⟩
    rcases Nat.eq_or_lt_of_le hqj with rfl | hlt
    ·exact hx
    ·exact hc j hj (by omega)
theorem MA (hl : fr.length ≤ 1000) (hsl : sl.length ≤ 100) (hM : M.length ≤ 64) (hz : ∀ a ∈ M, a.f0.size ≤ 9223372036854775807 ∧ a.f1.size ≤ 9223372036854775807) : ∀ (d k i : Nat), i + d = M.length → 70 * d + 9223372036854777000 < k →
  ∃ r, al.l0 k M (M.length : Int) (i : Int) addr aff sl fr M = some r ∧
  (r = true → ((∀ (j : Nat) (h : j < sl.length), (0 ≤ sl[j] ∧ sl[j] ≤ (M.length : Int)) ∧ fr.count (j : Int) = if sl[j] = 0 then 1 else 0) ∧ ∀ (j : Nat) (h : j < fr.length), 0 ≤ fr[j] ∧ fr[j] ≤ 63) ∧
   ∀ (j : Nat) (h : j < M.length), i ≤ j → gE ⟨M[j].f0, M[j].f1⟩ = true ∧ sl.count ((j + 1 : Nat) : Int) ≠ 0 ∧ ∀ (q : Nat) (hq : q < (M.take j).length), ((M.take j)[q].f0.toList == M[j].f0.toList && (M.take j)[q].f1.toList == M[j].f1.toList) = false) := by
 intro d
 induction d with
 | zero =>
  intro k i hi hk
  obtain ⟨k, rfl⟩ : ∃ m, k = m + 1 := ⟨k - 1, by omega⟩
  rw [al.l0, if_neg (by omega)]
  obtain ⟨r, hr, hc⟩ := My addr aff sl fr M (by omega) (by omega) (by omega) sl.length k 0 (by omega) (by omega)
  exact ⟨r, hr, fun h => ⟨⟨fun j hj => (hc h).1 j hj (by omega), (hc h).2⟩, fun j hj hij => by omega⟩⟩
 | succ d ih =>
  intro k i hi hk
  have hil : i < M.length := by omega
  obtain ⟨k, rfl⟩ : ∃ m, k = (m + i + 1) + 2 := ⟨k - i - 3, by omega⟩
  have e : bc M (i : Int) = M[i] := by simp [bc, List.getD, hil]
  have hz' := hz M[i] (List.getElem_mem hil)
  have hmay := EA M[i].f0 M[i].f1 hz'.1 hz'.2 (k + i + 1 + 1) (by omega)
  rw [al.l0, if_pos (by omega), if_pos (by omega), if_pos (by omega), e, hmay, Option.bind_some]
  cases hm : gE ⟨M[i].f0, M[i].f1⟩ with
  | false => exact ⟨false, by rw [if_neg (by decide), al.j2, if_pos rfl], fun h => by cases h⟩
  | true =>
   rw [if_pos rfl, bM ((i : Int) + 1) (by omega) (by omega), show (i : Int) + 1 = ((i + 1 : Nat) : Int) by omega, tK sl (by omega) _ _ (by omega), Option.bind_some, al.j2]
   by_cases h0 : sl.count ((i + 1 : Nat) : Int) = 0
   ·exact ⟨false, by rw [h0, if_pos (by rfl)], fun h => by cases h⟩
   ·have hcz : (((sl.count ((i + 1 : Nat) : Int) : Nat) : Int) == 0) = false := by rw [beq_eq_false_iff_ne]; omega
    rw [hcz, if_neg (by decide), if_pos (by omega), if_pos (by omega), Option.bind_some, Int.toNat_natCast]
    have e1 := Mz addr aff sl fr M i (by omega) hM M[i].f0 M[i].f1 i k 0 (by omega)
    rw [show ((0 : Nat) : Int) = 0 from rfl] at e1
    rcases e1 with e1 | ⟨e1, hd⟩
    ·exact ⟨false, e1, fun h => by cases h⟩
    ·obtain ⟨r, hr, hc⟩ := ih k (i + 1) (by omega) (by omega)
     refine ⟨r, by rw [e1, hr], fun h => ⟨(hc h).1, fun j hj hij => ?_⟩⟩
     rcases Nat.eq_or_lt_of_le hij with rfl | hlt
     ·exact ⟨hm, h0, fun q hq => hd q hq (by omega)⟩
     ·exact (hc h).2 j hj (by omega)
end
theorem yj {b : Bk} (hk : BkOk b) (hl : b.slots.length = 64) (hfl : b.free.length ≤ 1000) (jt : b.aff.size ≤ 9223372036854775807) (hz : ∀ a ∈ b.attrs, a.f0.size ≤ 9223372036854775807 ∧ a.f1.size ≤ 9223372036854775807) : rN b (eZ b) := by
 cases hrt : eZ b with
 | true => exact Eg hk (wG hrt) hl
 | false =>
  have hML : (b.attrs.map vc).length = b.attrs.length := List.length_map ..
  suffices h : ∃ r, al.f 9223372036854790000 b.addr b.aff b.slots b.free (b.attrs.map vc) = some r ∧ (r = true → eZ b = true) by
   obtain ⟨r, hr, hc⟩ := h
   cases r with
   | false => exact ⟨_, hr⟩
   | true => rw [hc rfl] at hrt; cases hrt
  unfold al.f
  by_cases hmod : Int.tmod b.addr 64 = 0
  ·rw [if_pos hmod, Ba b.aff jt _ (by omega), Option.bind_some]
   cases ho : ko b.aff with
   | false => exact ⟨false, by rw [if_neg (by decide), al.j0, if_pos rfl], fun h => by cases h⟩
   | true =>
    rw [if_pos rfl]
    by_cases hna : ((b.attrs.map vc).length : Int) > 64
    ·exact ⟨false, by rw [if_pos hna, al.j0, if_pos rfl], fun h => by cases h⟩
    ·rw [if_neg hna, hl, show (((64 : Nat) : Int) != 64) = false from rfl, al.j0, if_neg (by decide)]
     obtain ⟨r, hr, hc⟩ := MA b.addr b.aff b.slots b.free (b.attrs.map vc) hfl (by omega) (by omega) (by
      intro a ha
      obtain ⟨x, hx, rfl⟩ := List.mem_map.1 ha
      exact hz x hx) b.attrs.length 9223372036854789999 0 (by omega) (by omega)
     refine ⟨r, hr, fun h => ?_⟩
     obtain ⟨⟨c1, c2⟩, c3⟩ := hc h
     have hat : ∀ (i : Nat) (h : i < b.attrs.length), ll b.attrs i = b.attrs[i] := by
      intro i h
      simp [ll, lN, List.getD, h]
     have hnd : b.free.Nodup := by
      rw [List.nodup_iff_count]
      intro x
      by_cases hx : x ∈ b.free
      ·obtain ⟨j, hj, rfl⟩ := List.getElem_of_mem hx
       have hb := c2 j hj
       have hc := (c1 (b.free[j]).toNat (by omega)).2
       rw [Int.toNat_of_nonneg hb.1] at hc
       rw [hc]
       split <;> omega
      ·rw [List.count_eq_zero.2 hx]
       omega
     have hmem : ∀ (j : Nat) (h : j < b.free.length), b.slots.getD (b.free[j]).toNat 0 = 0 := by
      intro j hj
      have hb := c2 j hj
      have hlt : (b.free[j]).toNat < b.slots.length := by omega
      have hc := (c1 (b.free[j]).toNat hlt).2
      rw [Int.toNat_of_nonneg hb.1] at hc
      by_cases h0 : b.slots[(b.free[j]).toNat] = 0
      ·simp [List.getD, hlt, h0]
      ·rw [if_neg h0] at hc
       exact absurd (List.getElem_mem hj) (List.count_eq_zero.1 hc)
     have hzs : (((List.range b.slots.length).filter (fun j => b.slots.getD j 0 == 0)).map (fun j : Nat => (j : Int))).length = b.slots.countP (fun x => x == 0) := by
      rw [List.length_map, ← List.countP_eq_length_filter]
      have e : b.slots = (List.range b.slots.length).map (fun j => b.slots.getD j 0) := by
       apply List.ext_getElem
       ·simp
       ·intro q h1 h2
        simp [List.getD, h1]
      conv => rhs; rw [e]
      rw [List.countP_map]
      rfl
     have hznd : (((List.range b.slots.length).filter (fun j => b.slots.getD j 0 == 0)).map (fun j : Nat => (j : Int))).Nodup := by
      unfold List.Nodup
      rw [List.pairwise_map]
      exact (List.Pairwise.filter _ List.nodup_range).imp (fun {a b} h e => h (by omega))
     have hzc : b.slots.countP (fun x => x == 0) = b.free.length := by
      apply Nat.le_antisymm
      ·rw [← hzs]
       refine ni _ _ hznd (fun x hx => ?_)
       obtain ⟨j, hj, rfl⟩ := List.mem_map.1 hx
       obtain ⟨LB, lC⟩ := List.mem_filter.1 hj
       rw [List.mem_range] at LB
       have hc := (c1 j LB).2
       have h0 : b.slots[j] = 0 := by simpa [List.getD, LB] using lC
       rw [if_pos h0] at hc
       exact List.count_pos_iff.1 (by omega)
      ·rw [← hzs]
       refine ni _ _ hnd (fun x hx => ?_)
       obtain ⟨j, hj, rfl⟩ := List.getElem_of_mem hx
       have hb := c2 j hj
       exact List.mem_map.2 ⟨(b.free[j]).toNat, List.mem_filter.2 ⟨List.mem_range.2 (by omega), by rw [hmem j hj]; rfl⟩, by omega⟩
     have hused : (gG (ix b.slots)).length = b.attrs.length := by
      apply Nat.le_antisymm
      ·have h2 : (gG (ix b.slots)).length ≤ ((List.range b.attrs.length).map (fun j : Nat => (j : Int))).length := by
        refine ni _ _ (ub _ 64) (fun x hx => ?_)
        obtain ⟨q, rfl, pH, ht⟩ := nV _ _ _ hx
        unfold ix at ht
        rw [lO _ q pH, decide_eq_true_eq, List.mem_map] at ht
        obtain ⟨s, hs, he⟩ := ht
        obtain ⟨j, hj, rfl⟩ := List.getElem_of_mem hs
        have := (c1 j hj).1
        exact List.mem_map.2 ⟨q, List.mem_range.2 (by omega), rfl⟩
       simpa using h2
      ·have h2 : ((List.range b.attrs.length).map (fun j : Nat => (j : Int))).length ≤ (gG (ix b.slots)).length := by
        refine ni _ _ ?_ (fun x hx => ?_)
        ·unfold List.Nodup
         rw [List.pairwise_map]
         exact List.nodup_range.imp (fun {a b} h e => h (by omega))
        ·obtain ⟨q, hq, rfl⟩ := List.mem_map.1 hx
         rw [List.mem_range] at hq
         refine (Ey _ _ _).2 ⟨by omega, ?_⟩
         unfold ix
         rw [lO _ q (by omega), decide_eq_true_eq, List.mem_map]
         have hcq := (c3 q (by omega) (by omega)).2.1
         exact ⟨((q + 1 : Nat) : Int), List.count_pos_iff.1 (by omega), by omega⟩
       simpa using h2
     unfold eZ jQ jI
     simp only [Bool.and_eq_true, decide_eq_true_eq, List.all_eq_true, beq_iff_eq, List.mem_range, Bool.not_eq_true']
     refine ⟨?_, ho, by omega, ⟨?_, ?_, hused⟩, ?_, hzc⟩
     ·unfold nK
      have := hk.a0
      rw [Int.tmod_eq_emod_of_nonneg hk.a0] at hmod
      omega
     ·intro x hx
      obtain ⟨j, hj, rfl⟩ := List.getElem_of_mem hx
      have := (c1 j hj).1
      omega
     ·intro j hj
      have h3 := c3 j (by omega) (by omega)
      rw [hat j hj]
      refine ⟨by simpa [vc] using h3.1, ?_⟩
      rw [List.any_eq_false]
      intro x hx
      obtain ⟨q, hq, rfl⟩ := List.getElem_of_mem hx
      have h4 := h3.2.2 q (by rw [List.length_take] at hq ⊢; omega)
      intro he
      unfold sameAt at he
      simp only [List.getElem_take, List.getElem_map, vc] at h4 he
      rw [Bool.and_eq_true, beq_iff_eq, beq_iff_eq] at he
      rw [he.1, he.2] at h4
      simp at h4
     ·intro j hj
      unfold jJ
      rw [oM b.free j hj]
      have hb := c2 j hj
      simp only [Bool.or_eq_false_iff, decide_eq_false_iff_not, bne_eq_false_iff_eq]
      refine ⟨by omega, fun hm => ?_, hmem j hj⟩
      rw [List.mem_take_iff_getElem] at hm
      obtain ⟨q, hq, e⟩ := hm
      exact (List.pairwise_iff_getElem.1 hnd) q j (by omega) hj (by omega) e
  ·exact ⟨false, by rw [if_neg hmod, al.j0, if_pos rfl], fun h => by cases h⟩
end Go.Proofs.YtndddnglapkplaaGreatDoor.V
end

section
namespace Go.Proofs.YtndddnglapkplaaGreatDoor.V
theorem Dp (x y : List Int) (n : Int) (h : (x.length : Int) = n) : aT (x ++ y) false n = (x, y, false) := by
 unfold aT
 have e : n.toNat = x.length := by omega
 rw [if_pos ⟨rfl, by omega, by rw [List.length_append]; omega⟩, e, List.take_left, List.drop_left]
theorem FB (s : ByteArray) : fZ s = [(s.size : Int)] ++ bytesOf s := rfl
theorem Mr (n : Nat) : dK (s5 n) := by
 intro x hx
 simp only [s5, List.mem_cons, List.not_mem_nil, or_false] at hx
 rcases hx with rfl | rfl | rfl | rfl <;> omega
theorem uB (s : ByteArray) (hs : s.size ≤ 64) : dK (fZ s) := by
 intro x hx
 rw [FB] at hx
 rcases List.mem_append.1 hx with h | h
 ·rw [List.mem_singleton] at h
  omega
 ·exact lx s x h
theorem ly {x y : List Int} (hx : dK x) (hy : dK y) : dK (x ++ y) := by
 intro z hz
 rcases List.mem_append.1 hz with h | h
 ·exact hx z h
 ·exact hy z h
theorem Ez {b : Bk} (hp : RightP b) : ∀ a ∈ b.attrs, a.f0.size ≤ 64 ∧ a.f1.size ≤ 64 := by
 intro a ha
 obtain ⟨j, hj, rfl⟩ := List.getElem_of_mem ha
 have := hp.may j hj
 rw [show ll b.attrs j = b.attrs[j] by simp [ll, lN, List.getD, hj]] at this
 unfold gE at this
 rw [Bool.and_eq_true] at this
 exact ⟨(eT this.1).2, (eT this.2).2⟩
theorem ud (b : Bk) : lv b = [66] ++ (s5 b.addr.toNat ++ (fZ b.aff ++ ([(b.attrs.length : Int)] ++ (b.attrs.flatMap qi ++ (b.slots ++ ([(b.free.length : Int)] ++ (b.free ++ []))))))) := by
 unfold lv ir
 rw [List.take_of_length_le (Nat.le_refl _)]
 simp
theorem Gk {b : Bk} (hk : BkOk b) (hp : RightP b) (hl : b.slots.length = 64) : dK (lv b) := by
 have hfl := hp.free_len hl
 have hal := hp.na
 rw [ud]
 refine ly (by intro x hx; simp at hx; omega) (ly (Mr _) (ly (uB _ (rv hp.owner)) (ly (by intro x hx; simp at hx; omega) (ly ?_ (ly hk.s8 (ly (by intro x hx; simp at hx; omega) (ly hk.f8 (by intro x hx; simp at hx))))))))
 intro x hx
 obtain ⟨a, ha, hxa⟩ := List.mem_flatMap.1 hx
 have h := Ez hp a ha
 exact ly (uB _ h.1) (uB _ h.2) x hxa
end Go.Proofs.YtndddnglapkplaaGreatDoor.V
end

section
namespace Go.Proofs.YtndddnglapkplaaGreatDoor.V
theorem u7 {s t : ByteArray} (h : s.toList = t.toList) : s = t := ByteArray.ext (Array.ext' (by rw [← ByteArray.toList_eq, ← ByteArray.toList_eq, h]))
theorem KH (W : World) (s : ByteArray) (hs : s.size ≤ 1000000) : Kd.F (Kd.int .u8) (Lib.bytesWorld W 5 s) (fun k => k = W.heap.size) (some ⟨W.heap.size, 0, none⟩) (bytesOf s).length (bytesOf s) := by
 intro W' hW
 have hk := hW W.heap.size rfl (by rw [Lib.bytesWorld_size]; omega)
 have h0 := uj W 5 s (by omega)
 rw [ez]
 refine Kd.C_of_reads (enc := Value.int .u8) (d := 0) ⟨h0.1, h0.2.1, fun hn => ?_⟩
 obtain ⟨ad, e, hc⟩ := h0.2.2 hn
 cases e
 refine ⟨_, rfl, fun j hj => ?_⟩
 rw [← hc j hj]
 rw [add_plain]
 simp only [World.cell?, hk]
theorem KV {W W2 : World} {g : Nat} (s : ByteArray) (hs : s.size ≤ 1000000) (hb : Below (Lib.bytesWorld W 5 s).heap.size (Lib.bytesWorld W 5 s) W2) (hg : (Lib.bytesWorld W 5 s).heap.size ≤ g)
  (hx : bS W2 g [.slice (some ⟨W.heap.size, 0, none⟩) s.size (grownCap W s.size 0 5), .int .i64 0, .bool false] 150) : Rq W2 g (fun k => k = W.heap.size) (bytesOf s) false := by
 refine ⟨_, grownCap W s.size 0 5, bytesOf s, 0, ⟨?_, Kd.F_below (KH W s hs) hb, ?_, by omega, ?_, ?_⟩, rfl⟩
 ·rw [ez]; exact hx
 ·rw [ez]; exact grownCap_ge _ _ _ _
 ·rw [ez]; exact hs
 ·intro k hk
  rw [Lib.bytesWorld_size] at hg
  omega
theorem GJ (A : Option Addr) (n c : Nat) : Tryz.prog.built 150 [(0, .slice A n c)] = some [Value.slice A n c, .int .i64 0, .bool false].toArray := by kernel_rfl
section
variable {g : Nat} {ok : Nat → Prop} {W : World}
theorem Oh (s : ByteArray) (h : Rq W g ok (bytesOf s) false) : Calls Tryz.prog 64 #[.pointer (some ⟨g, 0, none⟩), .int .i64 1] W fun e W' => e = .returned (.int .u64 (bj (r0 s).1 : Nat)) ∧ Rq W' g ok (r0 s).2.1 (r0 s).2.2 ∧ W.grownBy W' (some g) := sO 1 (by omega) (by omega) (lx s) W h
theorem Og (s : ByteArray) (h : Rq W g ok (r0 s).2.1 (r0 s).2.2) : Calls Tryz.prog 64 #[.pointer (some ⟨g, 0, none⟩), .int .i64 4] W fun e W' => e = .returned (.int .u64 (bj (r1 s).1 : Nat)) ∧ Rq W' g ok (r1 s).2.1 (r1 s).2.2 ∧ W.grownBy W' (some g) := sO 4 (by omega) (by omega) (py s) W h
theorem Oi (s : ByteArray) (h : Rq W g ok (r1 s).2.1 (r1 s).2.2) : Calls Tryz.prog 65 #[.pointer (some ⟨g, 0, none⟩)] W fun e W' => e = .returned (.string (strOfNums (r2 s).1)) ∧ Rq W' g ok (r2 s).2.1 (r2 s).2.2 ∧ W.grownBy W' (some g) := sP (rl s) W h
theorem Of (s : ByteArray) (h : Rq W g ok (r2 s).2.1 (r2 s).2.2) : Calls Tryz.prog 64 #[.pointer (some ⟨g, 0, none⟩), .int .i64 1] W fun e W' => e = .returned (.int .u64 (bj (aT (r2 s).2.1 (r2 s).2.2 1).1 : Nat)) ∧ Rq W' g ok (aT (r2 s).2.1 (r2 s).2.2 1).2.1 (aT (r2 s).2.1 (r2 s).2.2 1).2.2 ∧ W.grownBy W' (some g) := sO 1 (by omega) (by omega) (rk s) W h
theorem Ok (s : ByteArray) (h : Rq W g ok (r3 s).2.1 (r3 s).2.2) : Calls Tryz.prog 66 #[.pointer (some ⟨g, 0, none⟩), .int .i64 64] W fun e W' => ∃ u, e = .returned u ∧ Kd.V (Kd.int .u8) 5 W' 0 ok u (r4 s).1 ∧ Rq W' g ok (r4 s).2.1 (r4 s).2.2 ∧ W.grownBy W' (some g) := mQ 64 W h
theorem Oe (s : ByteArray) (h : Rq W g ok (r4 s).2.1 (r4 s).2.2) : Calls Tryz.prog 64 #[.pointer (some ⟨g, 0, none⟩), .int .i64 1] W fun e W' => e = .returned (.int .u64 (bj (r5 s).1 : Nat)) ∧ Rq W' g ok (r5 s).2.1 (r5 s).2.2 ∧ W.grownBy W' (some g) := sO 1 (by omega) (by omega) (u6 s) W h
theorem Oj (s : ByteArray) (h : Rq W g ok (r5 s).2.1 (r5 s).2.2) : Calls Tryz.prog 66 #[.pointer (some ⟨g, 0, none⟩), .int .i64 (bj (r5 s).1 : Nat)] W fun e W' => ∃ u, e = .returned u ∧ Kd.V (Kd.int .u8) 5 W' 0 ok u (r6 s).1 ∧ Rq W' g ok (r6 s).2.1 (r6 s).2.2 ∧ W.grownBy W' (some g) := mQ (bj (r5 s).1) W h
end
theorem Eh (s : ByteArray) : (r6 s).1.length ≤ 255 := by
 have h1 := tD s
 have h2 := iz (r5 s).2.1 (r5 s).2.2 (bj (r5 s).1)
 have h3 : (r6 s).1.length ≤ bj (r5 s).1 := h2
 omega
theorem um : ∀ (n : Nat) (l : List Int) (bad : Bool), ∀ a ∈ (ej n l bad).1, a.f0.size ≤ 64 ∧ a.f1.size ≤ 64
 | 0, l, bad => by simp [ej]
 | n + 1, l, bad => by
  have ht : ∀ (l : List Int) (bad : Bool), (strOfNums (cH l bad).1).size ≤ 64 := fun l bad => by
   rw [strOfNums_size]
   unfold cH
   by_cases pH : 64 < bj (aT l bad 1).1
   ·rw [decide_eq_true pH, Bool.or_true]
    simp [aT]
   ·exact Nat.le_trans (iz _ _ _) (by omega)
  unfold ej
  split
  ·simp
  ·intro a ha
   rcases List.mem_cons.1 ha with rfl | ha
   ·exact ⟨ht _ _, ht _ _⟩
   ·exact um n _ _ a ha
theorem DU (l : List Int) (bad : Bool) : (strOfNums (cH l bad).1).size ≤ 64 := by
 rw [strOfNums_size]
 unfold cH
 by_cases pH : 64 < bj (aT l bad 1).1
 ·rw [decide_eq_true pH, Bool.or_true]
  simp [aT]
 ·exact Nat.le_trans (iz _ _ _) (by omega)
theorem sQ (s : ByteArray) (h : ie s = true) : (r4 s).1.length = 64 ∧ j8 (List.replicate 64 0) (r4 s).1 = (r4 s).1 := by
 unfold ie at h
 simp only [Bool.and_eq_true, Bool.not_eq_true', beq_iff_eq] at h
 obtain ⟨b5, n6, e6⟩ := fI (show (aT (r5 s).2.1 (r5 s).2.2 (bj (r5 s).1 : Nat)).2.2 = false from h.1)
 obtain ⟨b4, n5, e5⟩ := fI (show (aT (r4 s).2.1 (r4 s).2.2 1).2.2 = false from b5)
 obtain ⟨b3, n4, e4⟩ := fI (show (aT (r3 s).2.1 (r3 s).2.2 64).2.2 = false from b4)
 have e : ((r4 s).1.length : Int) = 64 := n4
 refine ⟨by omega, ?_⟩
 unfold j8
 rw [List.drop_of_length_le (by simp; omega), List.append_nil]
theorem K3 (s : ByteArray) (hd : ie s = true) (hr : eZ (cQ s) = true) : (strOfNums (lv (cQ s)) = s) ↔ bj (r0 s).1 = 66 := by
 constructor
 ·intro h
  have hk := pD s
  have hp := wG hr
  have hg := sQ s hd
  have hl : (cQ s).slots.length = 64 := by
   show (j8 (List.replicate 64 0) (r4 s).1).length = 64
   rw [hg.2, hg.1]
  have hB : bytesOf (strOfNums (lv (cQ s))) = lv (cQ s) := uk (Gk hk hp hl)
  rw [h, ud] at hB
  unfold r0
  rw [hB, Dp [66] _ 1 rfl]
  rfl
 ·intro h
  have hok : cy s = true := by unfold cy; rw [hd, hr, h]; rfl
  rw [FU s hok, AR]
theorem yi (s : ByteArray) (hd : ie s = true) : rN (cQ s) (eZ (cQ s)) := by
 have hg := sQ s hd
 refine yj (pD s) ?_ ?_ ?_ ?_
 ·show (j8 (List.replicate 64 0) (r4 s).1).length = 64
  rw [hg.2, hg.1]
 ·show (r6 s).1.length ≤ 1000
  have := Eh s
  omega
 ·have : (cQ s).aff.size ≤ 64 := DU _ _
  omega
 ·intro a ha
  have := um _ _ _ a ha
  omega
end Go.Proofs.YtndddnglapkplaaGreatDoor.V
end

section
namespace Go.Proofs.YtndddnglapkplaaGreatDoor.V
abbrev Cn := S145
def k9 (l : List Int) : List Int × List Int × Bool := aT l false 4
def lF (l : List Int) : List Int × List Int × Bool := aT (k9 l).2.1 (k9 l).2.2 2
def qg (l : List Int) : Cn := ⟨((bj (k9 l).1 : Nat) : Int), ((bj (lF l).1 : Nat) : Int)⟩
def gz : Nat → List Int → Bool → List Cn × List Int × Bool
 | 0, l, bad => ([], l, bad)
 | n + 1, l, bad => if bad = true then ([], l, true) else (qg l :: (gz n (lF l).2.1 (lF l).2.2).1, (gz n (lF l).2.1 (lF l).2.2).2)
def c1 (s : ByteArray) := aT (r0 s).2.1 (r0 s).2.2 2
def rc (s : ByteArray) : List Cn × List Int × Bool := gz (bj (c1 s).1) (c1 s).2.1 (c1 s).2.2
def tL (s : ByteArray) : Bool := !(rc s).2.2 && (((rc s).2.1.length : Int) == 0)
def qM (l : List Cn) (i : Nat) : Bool := decide ((aE l i).f0 % 64 ≠ 0) || (decide ((aE l i).f1 < 1) || (decide ((aE l i).f1 > 65535) || (decide (0 < i) && decide ((aE l i).f0 ≤ (aE l ((i - 1 : Nat) : Int)).f0))))
def sm (l : List Cn) : Bool := (List.range l.length).all (fun i => !qM l i) && decide (l.length ≤ 4096)
def pO (s : ByteArray) : Bool := tL s && (decide (bj (r0 s).1 = 72) && sm (rc s).1)
def AN (l : List Cn) : Prop := ∀ c ∈ l, (0 ≤ c.f0 ∧ c.f0 < 4294967296) ∧ (0 ≤ c.f1 ∧ c.f1 < 65536)
theorem tq {l : List Int} (h : dK l) : dK (k9 l).2.1 := (cO h _ 4).2
theorem Bx {l : List Int} (h : dK l) : dK (lF l).2.1 := (cO (tq h) _ 2).2
theorem wI {l : List Int} (h : dK l) (bad : Bool) : bj (aT l bad 2).1 < 65536 := by
 have h1 := oC (cO h bad 2).1
 have h2 := iz l bad 2
 exact Nat.lt_of_lt_of_le h1 (Nat.pow_le_pow_right (by omega) h2)
theorem BC {l : List Int} (h : dK l) (bad : Bool) : bj (aT l bad 4).1 < 4294967296 := by
 have h1 := oC (cO h bad 4).1
 have h2 := iz l bad 4
 exact Nat.lt_of_lt_of_le h1 (Nat.pow_le_pow_right (by omega) h2)
theorem Kn {l : List Int} (h : dK l) : (0 ≤ (qg l).f0 ∧ (qg l).f0 < 4294967296) ∧ (0 ≤ (qg l).f1 ∧ (qg l).f1 < 65536) := by
 have h1 := BC h false
 have h2 := wI (tq h) (k9 l).2.2
 have e1 : (qg l).f0 = ((bj (aT l false 4).1 : Nat) : Int) := rfl
 have e2 : (qg l).f1 = ((bj (aT (k9 l).2.1 (k9 l).2.2 2).1 : Nat) : Int) := rfl
 rw [e1, e2]
 omega
theorem vY : ∀ (n : Nat) (l : List Int) (bad : Bool), dK l → AN (gz n l bad).1
 | 0, l, bad, h => by intro c hc; simp [gz] at hc
 | n + 1, l, bad, h => by
  unfold gz
  split
  ·intro c hc; simp at hc
  ·intro c hc
   rcases List.mem_cons.1 hc with rfl | hc
   ·exact Kn h
   ·exact vY n _ _ (Bx h) c hc
theorem ui : ∀ (n : Nat) (l : List Int) (bad : Bool), (gz n l bad).1.length ≤ n
 | 0, l, bad => by simp [gz]
 | n + 1, l, bad => by
  unfold gz
  split
  ·simp
  ·simpa using ui n _ _
theorem Hy (s : ByteArray) : dK (c1 s).2.1 := (cO (py s) _ _).2
theorem Er (s : ByteArray) : bj (c1 s).1 < 65536 := wI (py s) _
theorem NT (s : ByteArray) : AN (rc s).1 := vY _ _ _ (Hy s)
theorem KZ (s : ByteArray) : (rc s).1.length ≤ 65535 := by
 have h1 := Er s
 have h2 := ui (bj (c1 s).1) (c1 s).2.1 (c1 s).2.2
 have : (rc s).1.length ≤ bj (c1 s).1 := h2
 omega
end Go.Proofs.YtndddnglapkplaaGreatDoor.V
end

section
namespace Go.Proofs.YtndddnglapkplaaGreatDoor.V
attribute [local go_sem] bI bG bP bO bw bu bH bF
def fe.f (a0 : Int) : Option (Int) := (fC.f 26).bind fun ov => (some (Go.bits .and .u32 a0 ov))
set_option maxHeartbeats 8000000 in
set_option maxRecDepth 100000 in
theorem fe.calls (a0 : Int) (r : Int) (w : World) (h : fe.f a0 = some r) :
  Calls Tryz.prog 117 #[.int .u32 a0] w fun e w' => e = .returned (.int .u32 r) ∧ Below w.heap.size w w' := by
 have HB := ak (Below.refl w.heap.size w)
 have H : ((fC.f 26).bind fun ov => (some (Go.bits .and .u32 a0 ov))) = some r := h
 clear h
 replace H := Option.bind_eq_some_iff.mp H
 obtain ⟨ov, ek, H⟩ := H
 replace H : (some (Go.bits .and .u32 a0 ov)) = some r := H
 have A2 := ak ek
 clear ek
 obtain rfl := Option.some.inj H
 go_enter Tryz.func117, Tryz.ntmps117
 go_wp2_with (first | ((with_reducible refine aD (f := 74) rfl ?_); refine bg (some 4) rfl rfl Tryz.func74 (by kernel_rfl) rfl #[.int .i64 26] rfl (by (try simp only [List.map_toArray, List.map_cons, List.map_nil]); first | done | rfl | (simp only [List.length_drop, List.length_take]; rfl)) ?_; (with_reducible refine (fC.calls 26 ov _ A2.out).mono ?_); rintro e w3 ⟨rfl, hb⟩; refine ⟨_, rfl, ?_⟩; have av := ak (au (by repeat (first | (with_reducible first | exact HB.out | apply aa | apply J | apply ab) | exact HB.out)) hb); clear HB; have HB := av; clear av; (try clear hb); (try clear bC); (try clear hk); (try clear hi)))
 go_ret
 exact ⟨by first | rfl | (simp [aq, ao] <;> rfl) | (simp [*, aq, ao] <;> rfl), by repeat (first | (with_reducible first | exact HB.out | apply aa | apply J | apply ab) | exact HB.out)⟩
end Go.Proofs.YtndddnglapkplaaGreatDoor.V
end

