/- The law ViewOf for every input: texts of ours, put together (part 11 of 17). No further condition. -/
import Derived.Test.YtndddnglapkplaaGreatDoorCViewOfx2
import Derived.Test.YtndddnglapkplaaGreatDoorCViewOfx5
import Derived.Test.YtndddnglapkplaaGreatDoorCViewOfx9
import Derived.Outline
import Derived.Test.YtndddnglapkplaaGreatDoorCViewOfx3
import Derived.Test.YtndddnglapkplaaGreatDoorCViewOfx8
import Derived.Test.YtndddnglapkplaaGreatDoorCViewOfx7
import Derived.Test.YtndddnglapkplaaGreatDoorCViewOfw0
set_option linter.unusedVariables false
set_option linter.unusedSimpArgs false
set_option linter.unusedSectionVars false
open Go.RowKit Go.Proofs.YtndddnglapkplaaGreatDoorW.PrintWords Go.Proofs.YtndddnglapkplaaGreatDoorW.PrintLast Go.Proofs.YtndddnglapkplaaGreatDoorW.PrintMore Go.Proofs.YtndddnglapkplaaGreatDoor.Z
namespace Go.Proofs.YtndddnglapkplaaGreatDoor.V
section
theorem U0 (A : Option Addr) (n c l h : Nat) (h1 : l ≤ h) (h2 : h ≤ c) : ∀ W : World, (Instr.slice 61 (.slice A n c) (some (.int .i64 (l : Int))) (some (.int .i64 (h : Int))) none).run Tryz.prog W = .ok (.slice (if c = l then A else A.map (·.add (l * 1))) (h - l) (c - l)) W := by
 intro W
 obtain ⟨i, hi, hz⟩ := Option.map_eq_some_iff.1 kA
 simp only [Prod.mk.injEq] at hz
 have hel : Tryz.prog.elem 61 = 5 := by simp [Program.elem, Tryz.underlying61]
 have hu : Tryz.prog.underlying 61 = some (.slice (Tryz.prog.elem 61)) := by rw [hel]; exact Tryz.underlying61
 rw [run_slice_lh W 61 A n c hu .i64 .i64 l h (by omega) (by omega) (by omega), hel]
 simp [sizeOf, typeInfo, hi, sliced, Result.andThen, hz.2.1]
theorem OO {W : World} {ok : Nat → Prop} {A : Option Addr} {L : List Int} {c : Nat} (hF : Kd.F (Kd.int .u8) W ok A L.length L) (n m : Nat) (hm : n + m ≤ L.length) (hc : L.length ≤ c) : Kd.V (Kd.int .u8) 5 W 0 ok (.slice (if c = n then A else A.map (·.add (n * 1))) m (c - n)) ((L.drop n).take m) := by
 have h1 := Kd.F_cut (c := c) hF (show n ≤ L.length by omega) hc
 have h2 := Kd.F_take h1 (show m ≤ (L.drop n).length by rw [List.length_drop]; omega)
 have hl : ((L.drop n).take m).length = m := by rw [List.length_take, List.length_drop]; omega
 refine ⟨_, c - n, by rw [hl]; rfl, by rw [hl]; omega, h2⟩
def nB.T1 : Bool × List (List Nat × List Nat) := (true, [([], []), ([0], [0]), ([1], [1]), ([2], [2]), ([3], [3]), ([4], [4]), ([5, 4], [4, 5]), ([4, 6], [4, 6]), ([7, 4], [7]), ([8], [8]), ([8], [8]), ([10, 8], [8, 10]), ([11, 8], [8, 11]), ([12, 8], [8, 12]), ([13, 8], [8, 13]), ([8], [8]), ([15, 8], [8, 15]), ([16, 8], [8, 16]), ([17, 8], [8, 17]), ([14, 18, 8], [8, 14, 18]), ([9, 19, 8], [8, 9, 19]), ([8, 20], [8, 20])])
def nB.B1 : List Nat := [0, 1, 3, 7, 15, 31, 63, 127, 255, 511, 511, 1535, 3583, 7679, 15871, 511, 33279, 98815, 229887, 523775, 1048575, 2097151]
theorem nB.tab1 : dA .any (opsOf Tryz.f66 1) = nB.T1 := by kernel_rfl
theorem nB.bits1 : dy nB.T1.2 nB.B1 = true := by kernel_rfl
def nA.T5 : Bool × List (List Nat × List Nat) := (true, [([], []), ([0], [0]), ([1], [1]), ([2], [2]), ([], []), ([4], [4]), ([5], [5]), ([6], [6]), ([], []), ([7, 8], [7, 8]), ([], []), ([10], [10]), ([11], [11]), ([12], [12]), ([3, 9, 13], [3, 9, 13]), ([14, 0, 1, 2, 3, 4, 5, 6, 7, 8, 9, 10, 11, 12, 13, 14], [14])])
def nA.B5 : List Nat := [0, 1, 3, 7, 0, 16, 48, 112, 0, 496, 0, 1024, 3072, 7168, 16383, 32767]
theorem nA.tab5 : dA .any (opsOf Tryz.f66 5) = nA.T5 := by kernel_rfl
theorem nA.bits5 : dy nA.T5.2 nA.B5 = true := by kernel_rfl
set_option maxHeartbeats 1000000 in
theorem Hj {g : Nat} {ok : Nat → Prop} {A : Option Addr} {c : Nat} {L : List Int} {n : Nat} (m : Nat) (W : World) (hm : n + m ≤ L.length) (h : Rr W g ok A c L n false) :
  Calls Tryz.prog 66 #[.pointer (some ⟨g, 0, none⟩), .int .i64 (m : Int)] W fun e W' => ∃ u, e = .returned u ∧ Kd.V (Kd.int .u8) 5 W' 0 ok u ((L.drop n).take m) ∧ Rr W' g ok A c L (n + m) false ∧ W.grownBy W' (some g) := by
 have H := ak h
 have DI : W.drew.cell? ⟨g, 0, none⟩ = some (.slice A L.length c) := h.box.cell 0 _ rfl
 have Ur : W.drew.cell? ⟨g, 1, none⟩ = some (.int .i64 (n : Int)) := h.box.cell 1 _ rfl
 have zI : W.drew.cell? ⟨g, 2, none⟩ = some (.bool false) := h.box.cell 2 _ rfl
 have xJ := (show bC W.drew g _ _ from h.box).frozen 1
 have hn := h.hn
 have hl := h.hl
 have b1 : decide ((m : Int) < 0) = false := by simp
 have b2 : decide (((L.length - n : Nat) : Int) < (m : Int)) = false := by simp; omega
 have b3 : decide ((m : Int) > ((L.length - n : Nat) : Int)) = false := by simp; omega
 have hw : IntKind.i64.wrap ((L.length : Int) - (n : Int)) = ((L.length - n : Nat) : Int) := by
  rw [IntKind.wrap_i64]; omega
 have Yk : wrap64 (n : Int) = (n : Int) := bB _ (by omega) (by omega)
 have hX : bC (W.setCell ⟨g, 1, none⟩ (.int .i64 ((n : Int) + (m : Int)))) g [.slice A L.length c, .int .i64 ((n : Int) + (m : Int)), .bool false] 150 := h.box.set 1 _
 have Yw : (W.drew.setCell ⟨g, 1, none⟩ (.int .i64 ((n : Int) + (m : Int)))).drew.cell? ⟨g, 0, none⟩ = some (.slice A L.length c) := hX.cell 0 _ rfl
 have DH : (W.drew.setCell ⟨g, 1, none⟩ (.int .i64 ((n : Int) + (m : Int)))).drew.cell? ⟨g, 1, none⟩ = some (.int .i64 ((n : Int) + (m : Int))) := hX.cell 1 _ rfl
 have HE := ak (And.intro Yw DH)
 have HX := ak hX
 have q := U0 A L.length c n (n + m) (by omega) (by have := h.hc; omega)
 rw [Nat.add_sub_cancel_left, Int.natCast_add] at q
 have hv := OO h.bs n m hm h.hc
 obtain ⟨A2, My⟩ : ∃ A2, A2 = (if c = n then A else A.map (·.add (n * 1))) := ⟨_, rfl⟩
 rw [← My] at q hv
 have HV := ak hv
 have hcast : ((n : Int) + (m : Int)) = ((n + m : Nat) : Int) := by omega
 have HC := ak hcast
 clear h hX Yw DH My hv hcast
 go_enter Tryz.func66, Tryz.ntmps66
 go_wp2
 refine dV (n := 22) (S := fun w' => w'.cell? ⟨g, 0, none⟩ = some (.slice A L.length c) ∧ w'.cell? ⟨g, 1, none⟩ = some (.int .i64 (n : Int)) ∧ w'.cell? ⟨g, 2, none⟩ = some (.bool false)) (ds := []) #[false, false, false, false, false, false, false, false, false, false, false, false, false, false, false, false, false, false, false, false, false, false] (by kernel_rfl) rfl rfl ⟨DI, Ur, zI⟩ (fun hHeld => ?_); refine cz nB.tab1 nB.bits1 (fun aa bV => ?_)
 refine pu 0 aa.out ?_
 refine pu 1 aa.out ?_
 refine pu 2 aa.out ?_
 refine tk 3 aa.out bV.out hHeld ?_ (hv := by intro w' bx; obtain ⟨s0, s1, s2⟩ := bx; go_simp; with_reducible rfl)
 refine pu 4 aa.out ?_
 refine pu 5 aa.out ?_
 refine pu 6 aa.out ?_
 refine pu 7 aa.out ?_
 refine pu 8 aa.out ?_
 refine pu 9 aa.out ?_
 refine pu 10 aa.out ?_
 refine pu 11 aa.out ?_
 refine pu 12 aa.out ?_
 refine tk 13 aa.out bV.out hHeld ?_ (hv := by intro w' bx; obtain ⟨s0, s1, s2⟩ := bx; go_simp; with_reducible rfl)
 refine pu 14 aa.out ?_
 refine pu 15 aa.out ?_
 refine pu 16 aa.out ?_
 refine pu 17 aa.out ?_
 refine tk 18 aa.out bV.out hHeld ?_ (hv := by intro w' bx; obtain ⟨s0, s1, s2⟩ := bx; go_simp; with_reducible rfl)
 refine pu 19 aa.out ?_
 refine pu 20 aa.out ?_
 refine pu 21 aa.out ?_
 refine dn aa.out ?_
 go_wp2
 refine dV (n := 16) (S := fun w' => w'.cell? ⟨g, 0, none⟩ = some (.slice A L.length c) ∧ w'.cell? ⟨g, 1, none⟩ = some (.int .i64 ((n : Int) + (m : Int)))) (ds := []) #[false, false, false, false, false, false, false, false, false, false, false, false, false, false, false, false] (by kernel_rfl) rfl rfl HE.out (fun hHeld => ?_); refine cz nA.tab5 nA.bits5 (fun aa bV => ?_)
 refine pu 0 aa.out ?_
 refine pu 1 aa.out ?_
 refine pu 2 aa.out ?_
 refine tk 3 aa.out bV.out hHeld ?_ (hv := by intro w' bx; obtain ⟨s0, s1⟩ := bx; go_simp; with_reducible rfl)
 refine pu 4 aa.out ?_
 refine pu 5 aa.out ?_
 refine pu 6 aa.out ?_
 refine tk 7 aa.out bV.out hHeld ?_ (hv := by intro w' bx; obtain ⟨s0, s1⟩ := bx; go_simp; with_reducible rfl)
 refine pu 8 aa.out ?_
 refine pu 9 aa.out ?_
 refine pu 10 aa.out ?_
 refine pu 11 aa.out ?_
 refine pu 12 aa.out ?_
 refine tk 13 aa.out bV.out hHeld ?_ (hv := by intro w' bx; obtain ⟨s0, s1⟩ := bx; go_simp; with_reducible rfl)
 refine pu 14 aa.out ?_
 refine pu 15 aa.out ?_
 refine dn aa.out ?_
 try go_wp2
 go_ret
 have aU : Below (W.setCell ⟨g, 1, none⟩ (.int .i64 ((n : Int) + (m : Int)))).heap.size (W.setCell ⟨g, 1, none⟩ (.int .i64 ((n : Int) + (m : Int)))) (W.setCell ⟨g, 1, none⟩ (.int .i64 ((n : Int) + (m : Int)))).drew.drew := bu (bu (Below.refl _ _))
 refine ⟨_, rfl, Kd.V_below (Kd.V_far (p := ⟨g, 1, none⟩) HV.out (fun k hk => H.out.ng k hk) _) aU, ⟨?_, Kd.F_below (Kd.F_far (p := ⟨g, 1, none⟩) H.out.bs (fun k hk => H.out.ng k hk) _) aU, H.out.hc, by omega, H.out.hl, H.out.ng⟩, (b8 W g 1 _).trans (ef aU _)⟩
 rw [← HC.out]
 exact HX.out.below aU
def Rq (W : World) (g : Nat) (ok : Nat → Prop) (l : List Int) (bad : Bool) : Prop := ∃ A c L n, Rr W g ok A c L n bad ∧ L.drop n = l
section
variable {W W1 : World} {g : Nat} {ok : Nat → Prop} {l : List Int} {bad : Bool}
theorem Rq.below (h : Rq W g ok l bad) (hb : Below W.heap.size W W1) : Rq W1 g ok l bad := by
 obtain ⟨A, c, L, n, h, e⟩ := h
 exact ⟨A, c, L, n, ⟨h.box.below hb, Kd.F_below h.bs hb, h.hc, h.hn, h.hl, h.ng⟩, e⟩
theorem Rq.grown (h : Rq W g ok l bad) {row : Option Nat} (hg : W.grownBy W1 row) (hr : ∀ k, ok k → some k ≠ row) (hn : some g ≠ row) : Rq W1 g ok l bad := by
 obtain ⟨A, c, L, n, h, e⟩ := h
 exact ⟨A, c, L, n, ⟨h.box.grown hg hn, Kd.F_grown h.bs hg hr, h.hc, h.hn, h.hl, h.ng⟩, e⟩
theorem Rq.lt (h : Rq W g ok l bad) : g < W.heap.size := by
 obtain ⟨A, c, L, n, h, e⟩ := h
 exact h.box.lt
end
theorem qv {g : Nat} {ok : Nat → Prop} {l : List Int} {bad : Bool} (m : Nat) (W : World) (h : Rq W g ok l bad) :
  Calls Tryz.prog 66 #[.pointer (some ⟨g, 0, none⟩), .int .i64 (m : Int)] W fun e W' => ∃ u, e = .returned u ∧ Kd.V (Kd.int .u8) 5 W' 0 ok u (aC l bad m).1 ∧ Rq W' g ok (aC l bad m).2.1 (aC l bad m).2.2 ∧ W.grownBy W' (some g) := by
 obtain ⟨A, c, L, n, h, rfl⟩ := h
 have hn := h.hn
 cases bad with
 | true =>
  have e : aC (L.drop n) true m = ([], L.drop n, true) := rfl
  rw [e]
  refine (Kb (m : Int) W h).mono ?_
  rintro e W' ⟨rfl, hr, hg⟩
  exact ⟨_, rfl, Kd.V_nil _ _ _ _ _, ⟨A, c, L, n, hr, rfl⟩, hg⟩
 | false =>
  by_cases hm : n + m ≤ L.length
  ·have e : aC (L.drop n) false m = ((L.drop n).take m, (L.drop n).drop m, false) := by
    unfold aC
    rw [if_pos ⟨rfl, by omega, by rw [List.length_drop]; omega⟩, Int.toNat_natCast]
   rw [e]
   refine (Hj m W hm h).mono ?_
   rintro e W' ⟨u, rfl, hv, hr, hg⟩
   exact ⟨_, rfl, hv, ⟨A, c, L, n + m, hr, by rw [List.drop_drop]⟩, hg⟩
  ·have e : aC (L.drop n) false m = ([], L.drop n, true) := by
    unfold aC
    rw [if_neg]
    rintro ⟨_, _, h3⟩
    rw [List.length_drop] at h3
    omega
   rw [e]
   refine (Ka m W (by omega) h).mono ?_
   rintro e W' ⟨rfl, hr, hg⟩
   exact ⟨_, rfl, Kd.V_nil _ _ _ _ _, ⟨A, c, L, n, hr, rfl⟩, hg⟩
theorem lP {g : Nat} {ok : Nat → Prop} {l : List Int} {bad : Bool} (W : World) (h : Rq W g ok l bad) :
  Calls Tryz.prog 67 #[.pointer (some ⟨g, 0, none⟩)] W fun e W' => e = .returned (.int .i64 (if bad = true then 0 else (l.length : Int))) ∧ Below W.heap.size W W' := by
 obtain ⟨A, c, L, n, h, rfl⟩ := h
 exact NU W h
end
section
attribute [local go_sem] bq bn bI bH aW aV bp bj
def dw.l0 : Nat → Int → List Int → Int → Int → Option (Int)
 | 0, _, _, _, _ => none
 | k + 1, x3, x6, x7, x8 => if x8 < x7 then (if 0 ≤ x8 then (if x8 < (x6.length : Int) then (dw.l0 k (IntKind.u64.wrap ((IntKind.u64.wrap (x3 * 256)) + (IntKind.u64.wrap (rd x6 x8)))) x6 x7 (wrap64 (x8 + 1))) else (none)) else (none)) else (some x3)
def dw.f (k : Nat) (l0 : List Int) : Option (Int) := dw.l0 k 0 l0 (l0.length : Int) 0
set_option maxHeartbeats 8000000 in
set_option maxRecDepth 100000 in
theorem dw.calls (k : Nat) (A0 : Option Addr) (c0 : Nat) (l0 : List Int) (r : Int) (w : World) (nS : Kd.C (Kd.int .u8) w A0 l0.length l0) (en : l0.length ≤ c0) (h : dw.f k l0 = some r) :
  Calls Tryz.prog 99 #[.slice A0 l0.length c0] w fun e w' => e = .returned (.int .u64 r) ∧ Drawn0 w w' := by
 have lJ := ak nS
 have qJ := ak en
 clear nS en
 have H : (dw.l0 k 0 l0 (l0.length : Int) 0) = some r := h
 clear h
 have H' := ak H; clear H
 go_enter Tryz.func99, Tryz.ntmps99
 go_wp2
 go_loopg [3, 8] k (fun kq v3 v8 w' => ∃ (bK : Int) (eG : Int), v3 = .int .u64 bK ∧ v8 = .int .i64 eG ∧ Aside0 (dw.l0 kq bK l0 (l0.length : Int) eG = some r) ∧ Aside0 (kq ≤ k) ∧ Drawn0 w w')
 case atStart => exact ⟨(0), (0), rf, rf, H', ⟨Nat.le_refl _⟩, dl⟩
 case round =>
  clear H'
  obtain ⟨bK, eG, rfl, rfl, HA, ee, ⟨m1, rfl⟩⟩ := hrel
  cases gk with
  | zero => exact absurd HA.out (by simp [dw.l0])
  | succ k1 =>
   have H := HA.out
   clear HA
   simp only [dw.l0] at H
   by_cases c2 : eG < (l0.length : Int)
   ·rw [if_pos c2] at H
    have ig := decide_eq_true c2
    clear c2
    by_cases c3 : 0 ≤ eG
    ·rw [if_pos c3] at H
     have gq := decide_eq_true c3
     clear c3
     by_cases c4 : eG < (l0.length : Int)
     ·rw [if_pos c4] at H
      have eQ := decide_eq_true c4
      clear c4
      have H' := ak H; clear H
      have EU : 0 ≤ (eG : Int) := od
      have EL : eG < (l0.length : Int) := od
      obtain ⟨aA2, UR, Yi⟩ := Kd.at_int lJ.out eG EU EL
      cases UR
      replace EU := eq_true EU
      replace EL := eq_true EL
      go_wp2
      go_roundg k1
      case measure => have := ee.out; omega
      case rel => exact ⟨(IntKind.u64.wrap ((IntKind.u64.wrap (bK * 256)) + (IntKind.u64.wrap (rd l0 eG)))), (wrap64 (eG + 1)), rf, rf, H', ⟨by have := ee.out; omega⟩, dl⟩
     ·rw [if_neg c4] at H
      exact absurd H (by simp)
    ·rw [if_neg c3] at H
     exact absurd H (by simp)
   ·rw [if_neg c2] at H
    have ig := decide_eq_false c2
    clear c2
    obtain rfl := Option.some.inj H
    go_wp2
    go_ret
    exact ⟨rf, dl⟩
end
section
theorem IK (L : List Int) (hL : dC L) (hl : L.length ≤ 7) : ∀ (d j k : Nat), j + d = L.length → d < k → dw.l0 k ((az (L.take j) : Nat) : Int) L (L.length : Int) (j : Int) = some ((az L : Nat) : Int)
 | 0, j, k, hj, hk => by
  obtain ⟨k, rfl⟩ : ∃ m, k = m + 1 := ⟨k - 1, by omega⟩
  unfold dw.l0
  rw [if_neg (by omega), List.take_of_length_le (by omega)]
 | d + 1, j, k, hj, hk => by
  obtain ⟨k, rfl⟩ : ∃ m, k = m + 1 := ⟨k - 1, by omega⟩
  unfold dw.l0
  have hjl : j < L.length := by omega
  rw [if_pos (by omega), if_pos (by omega), if_pos (by omega)]
  have ih := IK L hL hl d (j + 1) k (by omega) (by omega)
  have hx : L[j] = rd L j := by simp [rd, List.getD, hjl]
  have ji := iA hL (j : Int)
  have hn : az (L.take j) < 281474976710656 := by
   have h1 := s5 (l := L.take j) (fun x hx => hL x (List.mem_of_mem_take hx))
   have h2 : (256 : Nat) ^ (L.take j).length ≤ 256 ^ 6 := Nat.pow_le_pow_right (by omega) (by rw [List.length_take]; omega)
   exact Nat.lt_of_lt_of_le h1 (Nat.le_trans h2 (by decide))
  have e1 : az (L.take (j + 1)) = az (L.take j) * 256 + (rd L j).toNat := by
   rw [List.take_succ_eq_append_getElem hjl, Dm, hx]
  have e2 : IntKind.u64.wrap (IntKind.u64.wrap (((az (L.take j) : Nat) : Int) * 256) + IntKind.u64.wrap (rd L j)) = ((az (L.take (j + 1)) : Nat) : Int) := by
   rw [e1]
   rw [wrap_u64 (rd L j) ji.1 (by omega), wrap_u64 (_ * 256) (by omega) (by omega), wrap_u64 _ (by omega) (by omega)]
   omega
  have e3 : wrap64 ((j : Int) + 1) = ((j + 1 : Nat) : Int) := by rw [bB _ (by omega) (by omega)]; omega
  rw [e2, e3]
  exact ih
theorem UY {L : List Int} (hL : dC L) (hl : L.length ≤ 7) : dw.f 8 L = some ((az L : Nat) : Int) := IK L hL hl L.length 0 8 (by omega) (by omega)
set_option maxHeartbeats 1000000 in
theorem sf {g : Nat} {ok : Nat → Prop} {l : List Int} {bad : Bool} (m : Nat) (Ms : 1 ≤ m) (lv : m ≤ 7) (hl : dC l) (W : World) (h : Rq W g ok l bad) :
  Calls Tryz.prog 64 #[.pointer (some ⟨g, 0, none⟩), .int .i64 (m : Int)] W fun e W' => e = .returned (.int .u64 (az (aC l bad m).1 : Nat)) ∧ Rq W' g ok (aC l bad m).2.1 (aC l bad m).2.2 ∧ W.grownBy W' (some g) := by
 have H := ak h
 have h2 : W.cell? ⟨g, 2, none⟩ = some (.bool bad) := by
  obtain ⟨A, c, L, n, h, _⟩ := h
  exact h.box.cell 2 _ rfl
 have b1 : decide ((m : Int) < 1) = false := by simp; omega
 have b2 : decide ((m : Int) > 8) = false := by simp; omega
 have b3 : decide (8 < (m : Int)) = false := by simp; omega
 cases bad with
 | true =>
  have HE := ak (show aC l true m = ([], l, true) from rfl)
  rw [HE.out]
  clear h hl
  go_enter Tryz.func64, Tryz.ntmps64
  go_wp2
  go_ret
  exact ⟨rfl, H.out, ef (Below.refl _ _) _⟩
 | false =>
  have HD := ak (fun (W : World) (h : Rq W g ok l false) => qv m W h)
  have h7 : (aC l false m).1.length ≤ 7 := Nat.le_trans (jJ l false m) lv
  have HN := ak (UY (b9 hl false m).1 h7)
  clear h7
  generalize aC l false m = p at HD HN ⊢
  obtain ⟨L, l', bad'⟩ := p
  dsimp only at HD HN ⊢
  clear h hl
  go_enter Tryz.func64, Tryz.ntmps64
  go_wp2_with (first
   | (go_at_call 66; refine (HD.out _ H.out).mono ?_; rintro e W1 ⟨u, rfl, hv, hr, hg⟩; have HR := ak hr; have HG := ak hg; obtain ⟨A, c, rfl, hc, hF⟩ := hv; have HC := ak hc; have HF := ak (Kd.F_now hF); clear hr hg hc hF)
   | (go_at_call 99; refine (dw.calls 8 A c L _ _ HF.out HC.out HN.out).mono ?_; rintro e W2 ⟨rfl, ⟨nd, rfl⟩⟩))
  go_ret
  exact ⟨rfl, HR.out.below (bh (Below.refl _ _) _), HG.out.trans (ef (bh (Below.refl _ _) _) _)⟩
theorem Ou {l : List Int} (hl : dC l) (bad : Bool) : az (aC l bad 1).1 < 256 := pf hl bad
theorem Rq.spoil {W : World} {g : Nat} {ok : Nat → Prop} {l : List Int} {bad : Bool} (h : Rq W g ok l bad) : Rq (W.setCell ⟨g, 2, none⟩ (.bool true)) g ok l true ∧ W.grownBy (W.setCell ⟨g, 2, none⟩ (.bool true)) (some g) := by
 obtain ⟨A, c, L, n, h, e⟩ := h
 exact ⟨⟨A, c, L, n, ⟨h.box.set 2 (.bool true), Kd.F_far (p := ⟨g, 2, none⟩) h.bs (fun k hk => h.ng k hk) _, h.hc, h.hn, h.hl, h.ng⟩, e⟩, b8 W g 2 (.bool true)⟩
theorem Rq.fr2 {W : World} {g : Nat} {ok : Nat → Prop} {l : List Int} {bad : Bool} (h : Rq W g ok l bad) : W.frozen? ⟨g, 2, none⟩ = false := by
 obtain ⟨A, c, L, n, h, e⟩ := h
 exact h.box.frozen 2
theorem Rq.c2 {W : World} {g : Nat} {ok : Nat → Prop} {l : List Int} {bad : Bool} (h : Rq W g ok l bad) : W.cell? ⟨g, 2, none⟩ = some (.bool bad) := by
 obtain ⟨A, c, L, n, h, e⟩ := h
 exact h.box.cell 2 _ rfl
set_option maxHeartbeats 1000000 in
theorem yz {g : Nat} {ok : Nat → Prop} {l : List Int} {bad : Bool} (hl : dC l) (W : World) (h : Rq W g ok l bad) :
  Calls Tryz.prog 65 #[.pointer (some ⟨g, 0, none⟩)] W fun e W' => e = .returned (.string (strOfNums (cK l bad).1)) ∧ Rq W' g ok (cK l bad).2.1 (cK l bad).2.2 ∧ W.grownBy W' (some g) := by
 have H := ak h
 have hn := Ou hl bad
 have HU := ak (fun (W : World) (h : Rq W g ok l bad) => sf 1 (by omega) (by omega) hl W h)
 have HT : Aside0 (cK l bad = aC (aC l bad 1).2.1 ((aC l bad 1).2.2 || decide (64 < az (aC l bad 1).1)) (az (aC l bad 1).1 : Nat)) := ⟨rfl⟩
 have nK : Aside0 (∀ (W : World) (h : Rq W g ok l bad), Calls Tryz.prog 64 #[.pointer (some ⟨g, 0, none⟩), .int .i64 1] W fun e W' => e = .returned (.int .u64 (az (aC l bad 1).1 : Nat)) ∧ Rq W' g ok (aC l bad 1).2.1 (aC l bad 1).2.2 ∧ W.grownBy W' (some g)) := ⟨HU.out⟩
 clear HU
 generalize hp : aC l bad 1 = p at hn nK HT
 generalize hq : cK l bad = q at HT ⊢
 clear hp hq
 obtain ⟨L, l1, Gj⟩ := p
 dsimp only at hn nK HT
 generalize az L = n at hn nK HT
 by_cases uV : 64 < n
 ·have b1 : decide ((n : Int) > 64) = true := by simp; omega
  have b2 : decide (64 < (n : Int)) = true := by simp; omega
  have HQ := ak (show q = aC l1 true (n : Int) by rw [HT.out, decide_eq_true uV, Bool.or_true])
  clear h hl HT
  go_enter Tryz.func65, Tryz.ntmps65
  go_wp2_with (first
   | (go_at_call 64; refine (nK.out _ H.out).mono ?_; rintro e W1 ⟨rfl, iN, cj⟩; have H1 := ak iN; have qI := ak cj; have FG := iN.fr2; have jc := iN.c2; clear iN cj)
   | (generalize YA : W1.setCell ⟨g, 2, none⟩ (.bool true) = W2; go_at_call 66; have hs := H1.out.spoil; rw [YA] at hs; refine (qv n _ hs.1).mono ?_; have fR := ak (qI.out.trans hs.2); clear hs YA FG jc; rw [← HQ.out]; rintro e W3 ⟨u, rfl, Fs, fP, dd⟩; have H3 := ak fP; have uo := ak (fR.out.trans dd); obtain ⟨A3, c3, rfl, xK, yx⟩ := Fs; have hst := Kd.C_string (P := Tryz.prog) (src := 61) (dst := 9) (c := c3) Tryz.underlying61 Tryz.underlying5 Tryz.underlying9 (yx W3 (fun _ _ _ => rfl)); clear fP dd yx))
  go_ret
  exact ⟨rfl, H3.out, uo.out⟩
 ·have b1 : decide ((n : Int) > 64) = false := by simp; omega
  have b2 : decide (64 < (n : Int)) = false := by simp; omega
  have HQ := ak (show q = aC l1 Gj (n : Int) by rw [HT.out, decide_eq_false uV, Bool.or_false])
  clear h hl HT
  go_enter Tryz.func65, Tryz.ntmps65
  go_wp2_with (first
   | (go_at_call 64; refine (nK.out _ H.out).mono ?_; rintro e W1 ⟨rfl, iN, cj⟩; have H1 := ak iN; have qI := ak cj; clear iN cj)
   | (go_at_call 66; refine (qv n _ H1.out).mono ?_; rw [← HQ.out]; rintro e W3 ⟨u, rfl, Fs, fP, dd⟩; have H3 := ak fP; have uo := ak (qI.out.trans dd); obtain ⟨A3, c3, rfl, xK, yx⟩ := Fs; have hst := Kd.C_string (P := Tryz.prog) (src := 61) (dst := 9) (c := c3) Tryz.underlying61 Tryz.underlying5 Tryz.underlying9 (yx W3 (fun _ _ _ => rfl)); clear fP dd yx))
  go_ret
  exact ⟨rfl, H3.out, uo.out⟩
end
section
theorem LX (f0 f1 : ByteArray) (h0 : f0.size ≤ 9223372036854775807) (h1 : f1.size ≤ 9223372036854775807) (k : Nat) (hk : 9223372036854775808 ≤ k) : ff.f k f0 f1 = some (iD ⟨f0, f1⟩) := by
 unfold ff.f iD
 rw [sN f0 h0 k (by omega), Option.bind_some]
 cases hr : bU f0 with
 | true => rw [if_pos rfl, sN f1 h1 k (by omega), Option.bind_some, Bool.true_and]
 | false => rw [if_neg (by decide), Bool.false_and]
theorem Hd (s : ByteArray) (hs : s.size ≤ 9223372036854775807) (k : Nat) (hk : 9223372036854775808 ≤ k) : dK.f k s = some (mg s) := by
 unfold dK.f mg
 by_cases h0 : s.toList = []
 ·rw [if_pos h0]; simp [h0]
 ·rw [if_neg h0, sN s hs k (by omega), Option.bind_some]; simp [h0]
section
variable (addr : Int) (aff : ByteArray) (sl fr : List Int) (M : List S78)
theorem Va (hl : fr.length ≤ 1000) : ∀ (d k i : Nat), i + d = fr.length → d < k → ∃ r, ab.l3 k fr (fr.length : Int) (i : Int) = some r ∧ (r = true → ∀ (j : Nat) (h : j < fr.length), i ≤ j → 0 ≤ fr[j] ∧ fr[j] ≤ 63) := by
 intro d
 induction d with
 | zero =>
  intro k i hi hk
  obtain ⟨k, rfl⟩ : ∃ m, k = m + 1 := ⟨k - 1, by omega⟩
  refine ⟨true, ?_, fun _ j h hj => by omega⟩
  rw [ab.l3, if_neg (by omega)]
 | succ d ih =>
  intro k i hi hk
  obtain ⟨k, rfl⟩ : ∃ m, k = m + 1 := ⟨k - 1, by omega⟩
  have hil : i < fr.length := by omega
  rw [ab.l3, if_pos (by omega), if_pos (by omega), if_pos (by omega), tr fr i hil, bB ((i : Int) + 1) (by omega) (by omega), show (i : Int) + 1 = ((i + 1 : Nat) : Int) by omega]
  by_cases h1 : fr[i] < 0
  ·exact ⟨false, by rw [if_pos h1], fun h => by cases h⟩
  ·by_cases h2 : fr[i] > 63
   ·exact ⟨false, by rw [if_neg h1, if_pos h2], fun h => by cases h⟩
   ·obtain ⟨r, hr, hc⟩ := ih k (i + 1) (by omega) (by omega)
    refine ⟨r, by rw [if_neg h1, if_neg h2, hr], fun h j hj hij => ?_⟩
    rcases Nat.eq_or_lt_of_le hij with rfl | hlt
    ·exact ⟨by omega, by omega⟩
    ·exact hc h j hj (by omega)
theorem Vb (hl : fr.length ≤ 1000) (hsl : sl.length ≤ 1000) (hM : M.length ≤ 1000) : ∀ (d k i : Nat), i + d = sl.length → 2 * d + fr.length + 10 < k → ∃ r, ab.l2 k sl (sl.length : Int) (i : Int) addr aff sl fr M = some r ∧
  (r = true → (∀ (j : Nat) (h : j < sl.length), i ≤ j → (0 ≤ sl[j] ∧ sl[j] ≤ (M.length : Int)) ∧ fr.count (j : Int) = if sl[j] = 0 then 1 else 0) ∧ ∀ (j : Nat) (h : j < fr.length), 0 ≤ fr[j] ∧ fr[j] ≤ 63) := by
 intro d
 induction d with
 | zero =>
  intro k i hi hk
  obtain ⟨k, rfl⟩ : ∃ m, k = m + 1 := ⟨k - 1, by omega⟩
  rw [ab.l2, if_neg (by omega)]
  obtain ⟨r, hr, hc⟩ := Va fr hl fr.length k 0 (by omega) (by omega)
  exact ⟨r, hr, fun h => ⟨fun j hj hij => by omega, fun j hj => hc h j hj (by omega)⟩⟩
 | succ d ih =>
  intro k i hi hk
  obtain ⟨k, rfl⟩ : ∃ m, k = m + 2 := ⟨k - 2, by omega⟩
  have hil : i < sl.length := by omega
  rw [ab.l2, if_pos (by omega), if_pos (by omega), if_pos (by omega), tr sl i hil]
  by_cases h1 : sl[i] < 0
  ·refine ⟨false, ?_, fun h => by cases h⟩
   rw [if_pos h1, ab.j5, if_pos rfl]
  ·rw [if_neg h1, ab.j5, zm fr hl _ k (by omega), bB ((i : Int) + 1) (by omega) (by omega), show (i : Int) + 1 = ((i + 1 : Nat) : Int) by omega]
   by_cases h2 : sl[i] > (M.length : Int)
   ·exact ⟨false, by rw [if_pos (by rw [decide_eq_true_eq]; exact h2)], fun h => by cases h⟩
   ·rw [if_neg (by rw [decide_eq_true_eq]; exact h2)]
    obtain ⟨r, hr, hc⟩ := ih k (i + 1) (by omega) (by omega)
    have step : (fr.count (i : Int) = if sl[i] = 0 then 1 else 0) → (r = true → (∀ (j : Nat) (h : j < sl.length), i ≤ j → (0 ≤ sl[j] ∧ sl[j] ≤ (M.length : Int)) ∧ fr.count (j : Int) = if sl[j] = 0 then 1 else 0) ∧ ∀ (j : Nat) (h : j < fr.length), 0 ≤ fr[j] ∧ fr[j] ≤ 63) := by
     intro he h
     obtain ⟨c1, c2⟩ := hc h
     refine ⟨fun j hj hij => ?_, c2⟩
     rcases Nat.eq_or_lt_of_le hij with rfl | hlt
     ·exact ⟨⟨by omega, by omega⟩, he⟩
     ·exact c1 j hj (by omega)
    by_cases h0 : sl[i] = 0
    ·rw [if_pos h0, Option.bind_some]
     by_cases h3 : fr.count (i : Int) = 1
     ·exact ⟨r, by rw [if_pos (by rw [h3]; rfl), hr], step (by rw [if_pos h0]; exact h3)⟩
     ·exact ⟨false, by rw [if_neg (by omega)], fun h => by cases h⟩
    ·rw [if_neg h0, Option.bind_some]
     by_cases h3 : fr.count (i : Int) = 0
     ·exact ⟨r, by rw [if_pos (by rw [h3]; rfl), hr], step (by rw [if_neg h0]; exact h3)⟩
     ·exact ⟨false, by rw [if_neg (by omega)], fun h => by cases h⟩
theorem Vc (i : Nat) (hi : i ≤ M.length) (hM : M.length ≤ 64) (f0 f1 : ByteArray) : ∀ (d k q : Nat), q + d = i →
  ab.l1 (k + d + 1) M (M.length : Int) (i : Int) (M.take i) ((M.take i).length : Int) (q : Int) addr aff sl fr M f0 f1 = some false ∨
  (ab.l1 (k + d + 1) M (M.length : Int) (i : Int) (M.take i) ((M.take i).length : Int) (q : Int) addr aff sl fr M f0 f1 = ab.l0 k M (M.length : Int) ((i + 1 : Nat) : Int) addr aff sl fr M ∧
   ∀ (j : Nat) (h : j < (M.take i).length), q ≤ j → ((M.take i)[j].f0.toList == f0.toList && (M.take i)[j].f1.toList == f1.toList) = false) := by
 have hlen : (M.take i).length = i := by rw [List.length_take]; omega
 intro d
 induction d with
 | zero =>
  intro k q hq
  right
  refine ⟨?_, fun j hj hqj => by omega⟩
  rw [ab.l1, if_neg (by omega), bB ((i : Int) + 1) (by omega) (by omega), show (i : Int) + 1 = ((i + 1 : Nat) : Int) by omega]
 | succ d ih =>
  intro k q hq
  have hqi : q < (M.take i).length := by omega
  have e : aY (M.take i) (q : Int) = (M.take i)[q] := by
   unfold aY
   rw [Int.toNat_natCast, List.getD, List.getElem?_eq_getElem hqi]
   rfl
  rw [show k + (d + 1) + 1 = (k + d + 1) + 1 by omega, ab.l1, if_pos (by omega), if_pos (by omega), if_pos (by omega), e, bB ((q : Int) + 1) (by omega) (by omega), show (q : Int) + 1 = ((q + 1 : Nat) : Int) by omega]
  cases hx : ((M.take i)[q].f0.toList == f0.toList && (M.take i)[q].f1.toList == f1.toList) with
  | true => left; rw [if_pos rfl]
  | false =>
   rw [if_neg (by decide)]
   rcases ih k (q + 1) (by omega) with h | ⟨h, hc⟩
   ·exact .inl h
   ·refine .inr ⟨h, fun j hj hqj => ?_⟩
    rcases Nat.eq_or_lt_of_le hqj with rfl | hlt
    ·exact hx
    ·exact hc j hj (by omega)
theorem Vd (hl : fr.length ≤ 1000) (hsl : sl.length ≤ 100) (hM : M.length ≤ 64) (hz : ∀ a ∈ M, a.f0.size ≤ 9223372036854775807 ∧ a.f1.size ≤ 9223372036854775807) : ∀ (d k i : Nat), i + d = M.length → 70 * d + 9223372036854777000 < k →
  ∃ r, ab.l0 k M (M.length : Int) (i : Int) addr aff sl fr M = some r ∧
  (r = true → ((∀ (j : Nat) (h : j < sl.length), (0 ≤ sl[j] ∧ sl[j] ≤ (M.length : Int)) ∧ fr.count (j : Int) = if sl[j] = 0 then 1 else 0) ∧ ∀ (j : Nat) (h : j < fr.length), 0 ≤ fr[j] ∧ fr[j] ≤ 63) ∧
   ∀ (j : Nat) (h : j < M.length), i ≤ j → iD ⟨M[j].f0, M[j].f1⟩ = true ∧ sl.count ((j + 1 : Nat) : Int) ≠ 0 ∧ ∀ (q : Nat) (hq : q < (M.take j).length), ((M.take j)[q].f0.toList == M[j].f0.toList && (M.take j)[q].f1.toList == M[j].f1.toList) = false) := by
 intro d
 induction d with
 | zero =>
  intro k i hi hk
  obtain ⟨k, rfl⟩ : ∃ m, k = m + 1 := ⟨k - 1, by omega⟩
  rw [ab.l0, if_neg (by omega)]
  obtain ⟨r, hr, hc⟩ := Vb addr aff sl fr M (by omega) (by omega) (by omega) sl.length k 0 (by omega) (by omega)
  exact ⟨r, hr, fun h => ⟨⟨fun j hj => (hc h).1 j hj (by omega), (hc h).2⟩, fun j hj hij => by omega⟩⟩
 | succ d ih =>
  intro k i hi hk
  have hil : i < M.length := by omega
  obtain ⟨k, rfl⟩ : ∃ m, k = (m + i + 1) + 2 := ⟨k - i - 3, by omega⟩
  have e : aY M (i : Int) = M[i] := by simp [aY, List.getD, hil]
  have hz' := hz M[i] (List.getElem_mem hil)
  have hmay := LX M[i].f0 M[i].f1 hz'.1 hz'.2 (k + i + 1 + 1) (by omega)
  rw [ab.l0, if_pos (by omega), if_pos (by omega), if_pos (by omega), e, hmay, Option.bind_some]
  cases hm : iD ⟨M[i].f0, M[i].f1⟩ with
  | false => exact ⟨false, by rw [if_neg (by decide), ab.j2, if_pos rfl], fun h => by cases h⟩
  | true =>
   rw [if_pos rfl, bB ((i : Int) + 1) (by omega) (by omega), show (i : Int) + 1 = ((i + 1 : Nat) : Int) by omega, zm sl (by omega) _ _ (by omega), Option.bind_some, ab.j2]
   by_cases h0 : sl.count ((i + 1 : Nat) : Int) = 0
   ·exact ⟨false, by rw [h0, if_pos (by rfl)], fun h => by cases h⟩
   ·have hcz : (((sl.count ((i + 1 : Nat) : Int) : Nat) : Int) == 0) = false := by rw [beq_eq_false_iff_ne]; omega
    rw [hcz, if_neg (by decide), if_pos (by omega), if_pos (by omega), Option.bind_some, Int.toNat_natCast]
    have e1 := Vc addr aff sl fr M i (by omega) hM M[i].f0 M[i].f1 i k 0 (by omega)
    rw [show ((0 : Nat) : Int) = 0 from rfl] at e1
    rcases e1 with e1 | ⟨e1, hd⟩
    ·exact ⟨false, e1, fun h => by cases h⟩
    ·obtain ⟨r, hr, hc⟩ := ih k (i + 1) (by omega) (by omega)
     refine ⟨r, by rw [e1, hr], fun h => ⟨(hc h).1, fun j hj hij => ?_⟩⟩
     rcases Nat.eq_or_lt_of_le hij with rfl | hlt
     ·exact ⟨hm, h0, fun q hq => hd q hq (by omega)⟩
     ·exact (hc h).2 j hj (by omega)
end
theorem Ea {b : Bk} (hk : BkOk b) (hl : b.slots.length = 64) (hfl : b.free.length ≤ 1000) (kT : b.aff.size ≤ 9223372036854775807) (hz : ∀ a ∈ b.attrs, a.f0.size ≤ 9223372036854775807 ∧ a.f1.size ≤ 9223372036854775807) : xv b (fl b) := by
 cases hrt : fl b with
 | true => exact Lt hk (yX hrt) hl
 | false =>
  have hML : (b.attrs.map vc).length = b.attrs.length := List.length_map ..
  suffices h : ∃ r, ab.f 9223372036854790000 b.addr b.aff b.slots b.free (b.attrs.map vc) = some r ∧ (r = true → fl b = true) by
   obtain ⟨r, hr, hc⟩ := h
   cases r with
   | false => exact ⟨_, hr⟩
   | true => rw [hc rfl] at hrt; cases hrt
  unfold ab.f
  by_cases hmod : Int.tmod b.addr 64 = 0
  ·rw [if_pos hmod, Hd b.aff kT _ (by omega), Option.bind_some]
   cases ho : mg b.aff with
   | false => exact ⟨false, by rw [if_neg (by decide), ab.j0, if_pos rfl], fun h => by cases h⟩
   | true =>
    rw [if_pos rfl]
    by_cases hna : ((b.attrs.map vc).length : Int) > 64
    ·exact ⟨false, by rw [if_pos hna, ab.j0, if_pos rfl], fun h => by cases h⟩
    ·rw [if_neg hna, hl, show (((64 : Nat) : Int) != 64) = false from rfl, ab.j0, if_neg (by decide)]
     obtain ⟨r, hr, hc⟩ := Vd b.addr b.aff b.slots b.free (b.attrs.map vc) hfl (by omega) (by omega) (by
      intro a ha
      obtain ⟨x, hx, rfl⟩ := List.mem_map.1 ha
      exact hz x hx) b.attrs.length 9223372036854789999 0 (by omega) (by omega)
     refine ⟨r, hr, fun h => ?_⟩
     obtain ⟨⟨c1, c2⟩, c3⟩ := hc h
     have hat : ∀ (i : Nat) (h : i < b.attrs.length), nI b.attrs i = b.attrs[i] := by
      intro i h
      simp [nI, mf, List.getD, h]
     have hnd : b.free.Nodup := by
      rw [List.nodup_iff_count]
      intro x
      by_cases hx : x ∈ b.free
      ·obtain ⟨j, hj, rfl⟩ := List.getElem_of_mem hx
       have hb := c2 j hj
       have hc := (c1 (b.free[j]).toNat (by omega)).2
       rw [Int.toNat_of_nonneg hb.1] at hc
       rw [hc]
       split <;> omega
      ·rw [List.count_eq_zero.2 hx]
       omega
     have hmem : ∀ (j : Nat) (h : j < b.free.length), b.slots.getD (b.free[j]).toNat 0 = 0 := by
      intro j hj
      have hb := c2 j hj
      have hlt : (b.free[j]).toNat < b.slots.length := by omega
      have hc := (c1 (b.free[j]).toNat hlt).2
      rw [Int.toNat_of_nonneg hb.1] at hc
      by_cases h0 : b.slots[(b.free[j]).toNat] = 0
      ·simp [List.getD, hlt, h0]
      ·rw [if_neg h0] at hc
       exact absurd (List.getElem_mem hj) (List.count_eq_zero.1 hc)
     have hzs : (((List.range b.slots.length).filter (fun j => b.slots.getD j 0 == 0)).map (fun j : Nat => (j : Int))).length = b.slots.countP (fun x => x == 0) := by
      rw [List.length_map, ← List.countP_eq_length_filter]
      have e : b.slots = (List.range b.slots.length).map (fun j => b.slots.getD j 0) := by
       apply List.ext_getElem
       ·simp
       ·intro q h1 h2
        simp [List.getD, h1]
      conv => rhs; rw [e]
      rw [List.countP_map]
      rfl
     have hznd : (((List.range b.slots.length).filter (fun j => b.slots.getD j 0 == 0)).map (fun j : Nat => (j : Int))).Nodup := by
      unfold List.Nodup
      rw [List.pairwise_map]
      exact (List.Pairwise.filter _ List.nodup_range).imp (fun {a b} h e => h (by omega))
     have hzc : b.slots.countP (fun x => x == 0) = b.free.length := by
      apply Nat.le_antisymm
      ·rw [← hzs]
       refine qP _ _ hznd (fun x hx => ?_)
       obtain ⟨j, hj, rfl⟩ := List.mem_map.1 hx
       obtain ⟨Uh, lO⟩ := List.mem_filter.1 hj
       rw [List.mem_range] at Uh
       have hc := (c1 j Uh).2
       have h0 : b.slots[j] = 0 := by simpa [List.getD, Uh] using lO
       rw [if_pos h0] at hc
       exact List.count_pos_iff.1 (by omega)
      ·rw [← hzs]
       refine qP _ _ hnd (fun x hx => ?_)
       obtain ⟨j, hj, rfl⟩ := List.getElem_of_mem hx
       have hb := c2 j hj
       exact List.mem_map.2 ⟨(b.free[j]).toNat, List.mem_filter.2 ⟨List.mem_range.2 (by omega), by rw [hmem j hj]; rfl⟩, by omega⟩
     have hused : (iG (jG b.slots)).length = b.attrs.length := by
      apply Nat.le_antisymm
      ·have h2 : (iG (jG b.slots)).length ≤ ((List.range b.attrs.length).map (fun j : Nat => (j : Int))).length := by
        refine qP _ _ (zB _ 64) (fun x hx => ?_)
        obtain ⟨q, rfl, uV, ht⟩ := sv _ _ _ hx
        unfold jG at ht
        rw [om _ q uV, decide_eq_true_eq, List.mem_map] at ht
        obtain ⟨s, hs, he⟩ := ht
        obtain ⟨j, hj, rfl⟩ := List.getElem_of_mem hs
        have := (c1 j hj).1
        exact List.mem_map.2 ⟨q, List.mem_range.2 (by omega), rfl⟩
       simpa using h2
      ·have h2 : ((List.range b.attrs.length).map (fun j : Nat => (j : Int))).length ≤ (iG (jG b.slots)).length := by
        refine qP _ _ ?_ (fun x hx => ?_)
        ·unfold List.Nodup
         rw [List.pairwise_map]
         exact List.nodup_range.imp (fun {a b} h e => h (by omega))
        ·obtain ⟨q, hq, rfl⟩ := List.mem_map.1 hx
         rw [List.mem_range] at hq
         refine (LV _ _ _).2 ⟨by omega, ?_⟩
         unfold jG
         rw [om _ q (by omega), decide_eq_true_eq, List.mem_map]
         have hcq := (c3 q (by omega) (by omega)).2.1
         exact ⟨((q + 1 : Nat) : Int), List.count_pos_iff.1 (by omega), by omega⟩
       simpa using h2
     unfold fl lH lA
     simp only [Bool.and_eq_true, decide_eq_true_eq, List.all_eq_true, beq_iff_eq, List.mem_range, Bool.not_eq_true']
     refine ⟨?_, ho, by omega, ⟨?_, ?_, hused⟩, ?_, hzc⟩
     ·unfold se
      have := hk.a0
      rw [Int.tmod_eq_emod_of_nonneg hk.a0] at hmod
      omega
     ·intro x hx
      obtain ⟨j, hj, rfl⟩ := List.getElem_of_mem hx
      have := (c1 j hj).1
      omega
     ·intro j hj
      have h3 := c3 j (by omega) (by omega)
      rw [hat j hj]
      refine ⟨by simpa [vc] using h3.1, ?_⟩
      rw [List.any_eq_false]
      intro x hx
      obtain ⟨q, hq, rfl⟩ := List.getElem_of_mem hx
      have h4 := h3.2.2 q (by rw [List.length_take] at hq ⊢; omega)
      intro he
      unfold sameAt at he
      simp only [List.getElem_take, List.getElem_map, vc] at h4 he
      rw [Bool.and_eq_true, beq_iff_eq, beq_iff_eq] at he
      rw [he.1, he.2] at h4
      simp at h4
     ·intro j hj
      unfold lB
      rw [tr b.free j hj]
      have hb := c2 j hj
      simp only [Bool.or_eq_false_iff, decide_eq_false_iff_not, bne_eq_false_iff_eq]
      refine ⟨by omega, fun hm => ?_, hmem j hj⟩
      rw [List.mem_take_iff_getElem] at hm
      obtain ⟨q, hq, e⟩ := hm
      exact (List.pairwise_iff_getElem.1 hnd) q j (by omega) hj (by omega) e
  ·exact ⟨false, by rw [if_neg hmod, ab.j0, if_pos rfl], fun h => by cases h⟩
end
section
theorem qx (x y : List Int) (n : Int) (h : (x.length : Int) = n) : aC (x ++ y) false n = (x, y, false) := by
 unfold aC
 have e : n.toNat = x.length := by omega
 rw [if_pos ⟨rfl, by omega, by rw [List.length_append]; omega⟩, e, List.take_left, List.drop_left]
theorem Nn (s : ByteArray) : im s = [(s.size : Int)] ++ bytesOf s := rfl
theorem Gi (n : Nat) : dC (lR n) := by
 intro x hx
 simp only [lR, List.mem_cons, List.not_mem_nil, or_false] at hx
 rcases hx with rfl | rfl | rfl | rfl <;> omega
theorem OK (n : Nat) (h : n < 4294967296) : az (lR n) = n := by
 simp only [lR, az, List.foldl_cons, List.foldl_nil, Int.toNat_natCast]
 omega
theorem z7 (s : ByteArray) (hs : s.size ≤ 64) : dC (im s) := by
 intro x hx
 rw [Nn] at hx
 rcases List.mem_append.1 hx with h | h
 ·rw [List.mem_singleton] at h
  omega
 ·exact kL s x h
theorem mK {x y : List Int} (hx : dC x) (hy : dC y) : dC (x ++ y) := by
 intro z hz
 rcases List.mem_append.1 hz with h | h
 ·exact hx z h
 ·exact hy z h
theorem LW {b : Bk} (hp : RightP b) : ∀ a ∈ b.attrs, a.f0.size ≤ 64 ∧ a.f1.size ≤ 64 := by
 intro a ha
 obtain ⟨j, hj, rfl⟩ := List.getElem_of_mem ha
 have := hp.may j hj
 rw [show nI b.attrs j = b.attrs[j] by simp [nI, mf, List.getD, hj]] at this
 unfold iD at this
 rw [Bool.and_eq_true] at this
 exact ⟨(fq this.1).2, (fq this.2).2⟩
theorem zE (b : Bk) : nO b = [66] ++ (lR b.addr.toNat ++ (im b.aff ++ ([(b.attrs.length : Int)] ++ (b.attrs.flatMap vD ++ (b.slots ++ ([(b.free.length : Int)] ++ (b.free ++ []))))))) := by
 unfold nO jC
 rw [List.take_of_length_le (Nat.le_refl _)]
 simp
theorem N9 {b : Bk} (hk : BkOk b) (hp : RightP b) (hl : b.slots.length = 64) : dC (nO b) := by
 have hfl := hp.free_len hl
 have hal := hp.na
 rw [zE]
 refine mK (by intro x hx; simp at hx; omega) (mK (Gi _) (mK (z7 _ (xd hp.owner)) (mK (by intro x hx; simp at hx; omega) (mK ?_ (mK hk.s8 (mK (by intro x hx; simp at hx; omega) (mK hk.f8 (by intro x hx; simp at hx))))))))
 intro x hx
 obtain ⟨a, ha, hxa⟩ := List.mem_flatMap.1 hx
 have h := LW hp a ha
 exact mK (z7 _ h.1) (z7 _ h.2) x hxa
end
section
theorem sL {s t : ByteArray} (h : s.toList = t.toList) : s = t := ByteArray.ext (Array.ext' (by rw [← ByteArray.toList_eq, ← ByteArray.toList_eq, h]))
theorem S0 (W : World) (s : ByteArray) (hs : s.size ≤ 1000000) : Kd.F (Kd.int .u8) (Lib.bytesWorld W 5 s) (fun k => k = W.heap.size) (some ⟨W.heap.size, 0, none⟩) (bytesOf s).length (bytesOf s) := by
 intro W' hW
 have hk := hW W.heap.size rfl (by rw [Lib.bytesWorld_size]; omega)
 have h0 := zM W 5 s (by omega)
 rw [eU]
 refine Kd.C_of_reads (enc := Value.int .u8) (d := 0) ⟨h0.1, h0.2.1, fun hn => ?_⟩
 obtain ⟨ad, e, hc⟩ := h0.2.2 hn
 cases e
 refine ⟨_, rfl, fun j hj => ?_⟩
 rw [← hc j hj]
 rw [add_plain]
 simp only [World.cell?, hk]
theorem Lm {W W2 : World} {g : Nat} (s : ByteArray) (hs : s.size ≤ 1000000) (hb : Below (Lib.bytesWorld W 5 s).heap.size (Lib.bytesWorld W 5 s) W2) (hg : (Lib.bytesWorld W 5 s).heap.size ≤ g)
  (hx : bC W2 g [.slice (some ⟨W.heap.size, 0, none⟩) s.size (grownCap W s.size 0 5), .int .i64 0, .bool false] 150) : Rq W2 g (fun k => k = W.heap.size) (bytesOf s) false := by
 refine ⟨_, grownCap W s.size 0 5, bytesOf s, 0, ⟨?_, Kd.F_below (S0 W s hs) hb, ?_, by omega, ?_, ?_⟩, rfl⟩
 ·rw [eU]; exact hx
 ·rw [eU]; exact grownCap_ge _ _ _ _
 ·rw [eU]; exact hs
 ·intro k hk
  rw [Lib.bytesWorld_size] at hg
  omega
theorem Gf (A : Option Addr) (n c : Nat) : Tryz.prog.built 150 [(0, .slice A n c)] = some [Value.slice A n c, .int .i64 0, .bool false].toArray := by kernel_rfl
section
variable {g : Nat} {ok : Nat → Prop} {W : World}
theorem Qc (s : ByteArray) (h : Rq W g ok (bytesOf s) false) : Calls Tryz.prog 64 #[.pointer (some ⟨g, 0, none⟩), .int .i64 1] W fun e W' => e = .returned (.int .u64 (az (r0 s).1 : Nat)) ∧ Rq W' g ok (r0 s).2.1 (r0 s).2.2 ∧ W.grownBy W' (some g) := sf 1 (by omega) (by omega) (kL s) W h
theorem Xf (s : ByteArray) (h : Rq W g ok (r0 s).2.1 (r0 s).2.2) : Calls Tryz.prog 64 #[.pointer (some ⟨g, 0, none⟩), .int .i64 4] W fun e W' => e = .returned (.int .u64 (az (r1 s).1 : Nat)) ∧ Rq W' g ok (r1 s).2.1 (r1 s).2.2 ∧ W.grownBy W' (some g) := sf 4 (by omega) (by omega) (pX s) W h
theorem Xg (s : ByteArray) (h : Rq W g ok (r1 s).2.1 (r1 s).2.2) : Calls Tryz.prog 65 #[.pointer (some ⟨g, 0, none⟩)] W fun e W' => e = .returned (.string (strOfNums (r2 s).1)) ∧ Rq W' g ok (r2 s).2.1 (r2 s).2.2 ∧ W.grownBy W' (some g) := yz (uD s) W h
theorem Xe (s : ByteArray) (h : Rq W g ok (r2 s).2.1 (r2 s).2.2) : Calls Tryz.prog 64 #[.pointer (some ⟨g, 0, none⟩), .int .i64 1] W fun e W' => e = .returned (.int .u64 (az (aC (r2 s).2.1 (r2 s).2.2 1).1 : Nat)) ∧ Rq W' g ok (aC (r2 s).2.1 (r2 s).2.2 1).2.1 (aC (r2 s).2.1 (r2 s).2.2 1).2.2 ∧ W.grownBy W' (some g) := sf 1 (by omega) (by omega) (wX s) W h
theorem Xl (s : ByteArray) (h : Rq W g ok (r3 s).2.1 (r3 s).2.2) : Calls Tryz.prog 66 #[.pointer (some ⟨g, 0, none⟩), .int .i64 64] W fun e W' => ∃ u, e = .returned u ∧ Kd.V (Kd.int .u8) 5 W' 0 ok u (r4 s).1 ∧ Rq W' g ok (r4 s).2.1 (r4 s).2.2 ∧ W.grownBy W' (some g) := qv 64 W h
theorem Xd (s : ByteArray) (h : Rq W g ok (r4 s).2.1 (r4 s).2.2) : Calls Tryz.prog 64 #[.pointer (some ⟨g, 0, none⟩), .int .i64 1] W fun e W' => e = .returned (.int .u64 (az (r5 s).1 : Nat)) ∧ Rq W' g ok (r5 s).2.1 (r5 s).2.2 ∧ W.grownBy W' (some g) := sf 1 (by omega) (by omega) (AJ s) W h
theorem Xk (s : ByteArray) (h : Rq W g ok (r5 s).2.1 (r5 s).2.2) : Calls Tryz.prog 66 #[.pointer (some ⟨g, 0, none⟩), .int .i64 (az (r5 s).1 : Nat)] W fun e W' => ∃ u, e = .returned u ∧ Kd.V (Kd.int .u8) 5 W' 0 ok u (r6 s).1 ∧ Rq W' g ok (r6 s).2.1 (r6 s).2.2 ∧ W.grownBy W' (some g) := qv (az (r5 s).1) W h
end
theorem Ly (s : ByteArray) : (r6 s).1.length ≤ 255 := by
 have h1 := y5 s
 have h2 := jJ (r5 s).2.1 (r5 s).2.2 (az (r5 s).1)
 have h3 : (r6 s).1.length ≤ az (r5 s).1 := h2
 omega
theorem zO : ∀ (n : Nat) (l : List Int) (bad : Bool), ∀ a ∈ (eL n l bad).1, a.f0.size ≤ 64 ∧ a.f1.size ≤ 64
 | 0, l, bad => by simp [eL]
 | n + 1, l, bad => by
  have ht : ∀ (l : List Int) (bad : Bool), (strOfNums (cK l bad).1).size ≤ 64 := fun l bad => by
   rw [strOfNums_size]
   unfold cK
   by_cases uV : 64 < az (aC l bad 1).1
   ·rw [decide_eq_true uV, Bool.or_true]
    simp [aC]
   ·exact Nat.le_trans (jJ _ _ _) (by omega)
  unfold eL
  split
  ·simp
  ·intro a ha
   rcases List.mem_cons.1 ha with rfl | ha
   ·exact ⟨ht _ _, ht _ _⟩
   ·exact zO n _ _ a ha
theorem K0 (l : List Int) (bad : Bool) : (strOfNums (cK l bad).1).size ≤ 64 := by
 rw [strOfNums_size]
 unfold cK
 by_cases uV : 64 < az (aC l bad 1).1
 ·rw [decide_eq_true uV, Bool.or_true]
  simp [aC]
 ·exact Nat.le_trans (jJ _ _ _) (by omega)
theorem uX (s : ByteArray) (h : ju s = true) : (r4 s).1.length = 64 ∧ kY (List.replicate 64 0) (r4 s).1 = (r4 s).1 := by
 unfold ju at h
 simp only [Bool.and_eq_true, Bool.not_eq_true', beq_iff_eq] at h
 obtain ⟨b5, n6, e6⟩ := dF (show (aC (r5 s).2.1 (r5 s).2.2 (az (r5 s).1 : Nat)).2.2 = false from h.1)
 obtain ⟨b4, n5, e5⟩ := dF (show (aC (r4 s).2.1 (r4 s).2.2 1).2.2 = false from b5)
 obtain ⟨b3, n4, e4⟩ := dF (show (aC (r3 s).2.1 (r3 s).2.2 64).2.2 = false from b4)
 have e : ((r4 s).1.length : Int) = 64 := n4
 refine ⟨by omega, ?_⟩
 unfold kY
 rw [List.drop_of_length_le (by simp; omega), List.append_nil]
theorem TB (s : ByteArray) (hd : ju s = true) (hr : fl (cd s) = true) : (strOfNums (nO (cd s)) = s) ↔ az (r0 s).1 = 66 := by
 constructor
 ·intro h
  have hk := ry s
  have hp := yX hr
  have hg := uX s hd
  have hl : (cd s).slots.length = 64 := by
   show (kY (List.replicate 64 0) (r4 s).1).length = 64
   rw [hg.2, hg.1]
  have hB : bytesOf (strOfNums (nO (cd s))) = nO (cd s) := rj (N9 hk hp hl)
  rw [h, zE] at hB
  unfold r0
  rw [hB, qx [66] _ 1 rfl]
  rfl
 ·intro h
  have hok : cB s = true := by unfold cB; rw [hd, hr, h]; rfl
  rw [NI s hok, vv]
theorem D9 (s : ByteArray) (hd : ju s = true) : xv (cd s) (fl (cd s)) := by
 have hg := uX s hd
 refine Ea (ry s) ?_ ?_ ?_ ?_
 ·show (kY (List.replicate 64 0) (r4 s).1).length = 64
  rw [hg.2, hg.1]
 ·show (r6 s).1.length ≤ 1000
  have := Ly s
  omega
 ·have : (cd s).aff.size ≤ 64 := K0 _ _
  omega
 ·intro a ha
  have := zO _ _ _ a ha
  omega
end
section
abbrev Cn := S145
def ko (c : Cn) : S144 := ⟨c.f0, c.f1⟩
def gT (l : List Int) : List Int × List Int × Bool := aC l false 4
def iw (l : List Int) : List Int × List Int × Bool := aC (gT l).2.1 (gT l).2.2 2
def oU (l : List Int) : Cn := ⟨((az (gT l).1 : Nat) : Int), ((az (iw l).1 : Nat) : Int)⟩
def dI : Nat → List Int → Bool → List Cn × List Int × Bool
 | 0, l, bad => ([], l, bad)
 | n + 1, l, bad => if bad = true then ([], l, true) else (oU l :: (dI n (iw l).2.1 (iw l).2.2).1, (dI n (iw l).2.1 (iw l).2.2).2)
def c1 (s : ByteArray) := aC (r0 s).2.1 (r0 s).2.2 2
def rc (s : ByteArray) : List Cn × List Int × Bool := dI (az (c1 s).1) (c1 s).2.1 (c1 s).2.2
def mI (s : ByteArray) : Bool := !(rc s).2.2 && (((rc s).2.1.length : Int) == 0)
def nD (l : List Cn) (i : Nat) : Bool := decide ((ct l i).f0 % 64 ≠ 0) || (decide ((ct l i).f1 < 1) || (decide ((ct l i).f1 > 65535) || (decide (0 < i) && decide ((ct l i).f0 ≤ (ct l ((i - 1 : Nat) : Int)).f0))))
def kI (l : List Cn) : Bool := (List.range l.length).all (fun i => !nD l i) && decide (l.length ≤ 4096)
def eK (s : ByteArray) : Bool := mI s && (decide (az (r0 s).1 = 72) && kI (rc s).1)
def yO (l : List Cn) : Prop := ∀ c ∈ l, (0 ≤ c.f0 ∧ c.f0 < 4294967296) ∧ (0 ≤ c.f1 ∧ c.f1 < 65536)
theorem qL {l : List Int} (h : dC l) : dC (gT l).2.1 := (b9 h _ 4).2
theorem yV {l : List Int} (h : dC l) : dC (iw l).2.1 := (b9 (qL h) _ 2).2
theorem y4 {l : List Int} (h : dC l) (bad : Bool) : az (aC l bad 2).1 < 65536 := by
 have h1 := s5 (b9 h bad 2).1
 have h2 := jJ l bad 2
 exact Nat.lt_of_lt_of_le h1 (Nat.pow_le_pow_right (by omega) h2)
theorem Cf {l : List Int} (h : dC l) (bad : Bool) : az (aC l bad 4).1 < 4294967296 := by
 have h1 := s5 (b9 h bad 4).1
 have h2 := jJ l bad 4
 exact Nat.lt_of_lt_of_le h1 (Nat.pow_le_pow_right (by omega) h2)
theorem Sq {l : List Int} (h : dC l) : (0 ≤ (oU l).f0 ∧ (oU l).f0 < 4294967296) ∧ (0 ≤ (oU l).f1 ∧ (oU l).f1 < 65536) := by
 have h1 := Cf h false
 have h2 := y4 (qL h) (gT l).2.2
 have e1 : (oU l).f0 = ((az (aC l false 4).1 : Nat) : Int) := rfl
 have e2 : (oU l).f1 = ((az (aC (gT l).2.1 (gT l).2.2 2).1 : Nat) : Int) := rfl
 rw [e1, e2]
 omega
theorem BL : ∀ (n : Nat) (l : List Int) (bad : Bool), dC l → yO (dI n l bad).1
 | 0, l, bad, h => by intro c hc; simp [dI] at hc
 | n + 1, l, bad, h => by
  unfold dI
  split
  ·intro c hc; simp at hc
  ·intro c hc
   rcases List.mem_cons.1 hc with rfl | hc
   ·exact Sq h
   ·exact BL n _ _ (yV h) c hc
theorem zL : ∀ (n : Nat) (l : List Int) (bad : Bool), (dI n l bad).1.length ≤ n
 | 0, l, bad => by simp [dI]
 | n + 1, l, bad => by
  unfold dI
  split
  ·simp
  ·simpa using zL n _ _
theorem El (s : ByteArray) : dC (c1 s).2.1 := (b9 (pX s) _ _).2
theorem E7 (s : ByteArray) : az (c1 s).1 < 65536 := y4 (pX s) _
theorem Pz (s : ByteArray) : yO (rc s).1 := BL _ _ _ (El s)
theorem Lv (s : ByteArray) : (rc s).1.length ≤ 65535 := by
 have h1 := E7 s
 have h2 := zL (az (c1 s).1) (c1 s).2.1 (c1 s).2.2
 have : (rc s).1.length ≤ az (c1 s).1 := h2
 omega
def vn (n : Nat) : List Int := [((n / 256 % 256 : Nat) : Int), ((n % 256 : Nat) : Int)]
def xp (c : Cn) : List Int := lR c.f0.toNat ++ vn c.f1.toNat
def Ch (l : List Cn) : List Int := 72 :: (vn l.length ++ l.flatMap xp)
theorem I1 {l : List Int} (h : dC l) (hl : (l.length : Int) = 2) : vn (az l) = l := by
 match l, hl with
 | [a, b], _ =>
  have ha := h a (by simp)
  have hb := h b (by simp)
  obtain ⟨a, rfl⟩ : ∃ n : Nat, a = n := ⟨a.toNat, by omega⟩
  obtain ⟨b, rfl⟩ : ∃ n : Nat, b = n := ⟨b.toNat, by omega⟩
  have e : az [(a : Int), b] = a * 256 + b := by simp [az]
  rw [e]
  unfold vn
  congr 1
  ·omega
  ·congr 1
   omega
 | [], hl => simp at hl
 | [_], hl => simp at hl
 | _ :: _ :: _ :: _, hl => simp at hl; omega
theorem yC : ∀ (n : Nat) (l : List Int) (bad : Bool), dC l → (dI n l bad).2.2 = false → bad = false ∧ ((dI n l bad).1.length = n ∧ l = (dI n l bad).1.flatMap xp ++ (dI n l bad).2.1)
 | 0, l, bad, hu, h => ⟨h, rfl, by simp [dI]⟩
 | n + 1, l, bad, hu, h => by
  unfold dI at h ⊢
  cases bad with
  | true => simp at h
  | false =>
   simp only [Bool.false_eq_true, if_false] at h ⊢
   have Is := qL hu
   have Mm := yV hu
   obtain ⟨h1, h2, h3⟩ := yC n _ _ Mm h
   obtain ⟨h4, h5, h6⟩ := dF (show (aC (gT l).2.1 (gT l).2.2 2).2.2 = false from h1)
   obtain ⟨_, h7, h8⟩ := dF (show (aC l false 4).2.2 = false from h4)
   refine ⟨trivial, by rw [List.length_cons, h2], ?_⟩
   rw [List.flatMap_cons, List.append_assoc, ← h3]
   have e1 : lR (oU l).f0.toNat = (gT l).1 := CT (b9 hu false 4).1 h7
   have e2 : vn (oU l).f1.toNat = (iw l).1 := I1 (b9 Is _ 2).1 h5
   unfold xp
   rw [e1, e2, List.append_assoc]
   have h6' : (gT l).2.1 = (iw l).1 ++ (iw l).2.1 := h6
   rw [← h6']
   exact h8
theorem Sp (s : ByteArray) (hd : mI s = true) : bytesOf s = ((az (r0 s).1 : Nat) : Int) :: (vn (rc s).1.length ++ (rc s).1.flatMap xp) := by
 unfold mI at hd
 simp only [Bool.and_eq_true, Bool.not_eq_true', beq_iff_eq] at hd
 obtain ⟨b1, n2, e2⟩ := yC _ _ _ (El s) (show (dI (az (c1 s).1) (c1 s).2.1 (c1 s).2.2).2.2 = false from hd.1)
 obtain ⟨b0, n1, e1⟩ := dF (show (aC (r0 s).2.1 (r0 s).2.2 2).2.2 = false from b1)
 obtain ⟨_, n0, e0⟩ := dF (show (aC (bytesOf s) false 1).2.2 = false from b0)
 have E2 : (c1 s).2.1 = (rc s).1.flatMap xp := by
  have h : (c1 s).2.1 = (rc s).1.flatMap xp ++ (rc s).2.1 := e2
  rw [h, List.eq_nil_of_length_eq_zero (show (rc s).2.1.length = 0 by omega), List.append_nil]
 have N2 : (rc s).1.length = az (c1 s).1 := n2
 have E1 : (r0 s).2.1 = (c1 s).1 ++ (c1 s).2.1 := e1
 have E0 : bytesOf s = (r0 s).1 ++ (r0 s).2.1 := e0
 have F1 : vn (az (c1 s).1) = (c1 s).1 := I1 (b9 (pX s) _ 2).1 n1
 have F0 : (r0 s).1 = [((az (r0 s).1 : Nat) : Int)] := pe (b9 (kL s) false 1).1 n0
 rw [E0, E1, E2, N2, F1]
 conv => lhs; lhs; rw [F0]
 rfl
theorem Ro {l : List Cn} : dC (Ch l) := by
 have h2 : ∀ n, dC (vn n) := fun n x hx => by
  simp only [vn, List.mem_cons, List.not_mem_nil, or_false] at hx
  rcases hx with rfl | rfl <;> omega
 intro x hx
 rcases List.mem_cons.1 hx with rfl | hx
 ·omega
 ·rcases List.mem_append.1 hx with h | h
  ·exact h2 _ x h
  ·obtain ⟨c, _, hc⟩ := List.mem_flatMap.1 h
   exact mK (Gi _) (h2 _) x hc
theorem Rp (s : ByteArray) (hd : mI s = true) : strOfNums (Ch (rc s).1) = s ↔ az (r0 s).1 = 72 := by
 have h := Sp s hd
 constructor
 ·intro e
  have h2 := congrArg bytesOf e
  rw [rj Ro, h] at h2
  have := congrArg (fun l : List Int => l.headD 0) h2
  simp only [Ch, List.headD_cons] at this
  omega
 ·intro e
  have h2 : Ch (rc s).1 = bytesOf s := by rw [h, e]; rfl
  rw [h2, vv]
end
section
attribute [local go_sem] bq bn bI bH aW aV bp bj
def jT.f (a0 : ByteArray) : Option (ByteArray × Bool) := (gI.f a0 (⟨#[104, 97, 110, 100, 108, 101, 47]⟩ : ByteArray)).bind fun wL => (some (wL.1, wL.2))
set_option maxHeartbeats 8000000 in
set_option maxRecDepth 100000 in
theorem jT.calls (a0 : ByteArray) (r1 : ByteArray) (r2 : Bool) (w : World) (h : jT.f a0 = some (r1, r2)) :
  Calls Tryz.prog 58 #[.string a0] w fun e w' => e = .returned (.tuple #[.string r1, .bool r2]) ∧ Below w.heap.size w w' := by
 have HB := ak (Below.refl w.heap.size w)
 have H : ((gI.f a0 (⟨#[104, 97, 110, 100, 108, 101, 47]⟩ : ByteArray)).bind fun wL => (some (wL.1, wL.2))) = some (r1, r2) := h
 clear h
 replace H := Option.bind_eq_some_iff.mp H
 obtain ⟨⟨Lb, La⟩, eS, H⟩ := H
 replace H : (some (Lb, La)) = some (r1, r2) := H
 have A2 := ak eS
 clear eS
 simp only [Option.some.injEq, Prod.mk.injEq] at H
 obtain ⟨rfl, rfl⟩ := H
 go_enter Tryz.func58, Tryz.ntmps58
 go_wp2_with (first | ((with_reducible refine au (f := 94) rfl ?_); refine gC (some 5) Tryz.func94 #[.string a0, .string (⟨#[104, 97, 110, 100, 108, 101, 47]⟩ : ByteArray)] ?_; (with_reducible refine (gI.calls a0 (⟨#[104, 97, 110, 100, 108, 101, 47]⟩ : ByteArray) Lb La _ A2.out).mono ?_); rintro e w3 ⟨rfl, hb⟩; refine ⟨_, rfl, ?_⟩; replace HB := bs hb; (try clear hb); (try clear aU); (try clear hk); (try clear hi)))
 go_ret2
 exact ⟨rg, bl⟩
end
section
attribute [local go_sem] bq bn bI bH aW aV bp bj
def lr.f (a0 : ByteArray) : Option (ByteArray × Bool) := (gI.f a0 (⟨#[110, 111, 100, 101, 47]⟩ : ByteArray)).bind fun wK => (some (wK.1, wK.2))
set_option maxHeartbeats 8000000 in
set_option maxRecDepth 100000 in
theorem lr.calls (a0 : ByteArray) (r1 : ByteArray) (r2 : Bool) (w : World) (h : lr.f a0 = some (r1, r2)) :
  Calls Tryz.prog 60 #[.string a0] w fun e w' => e = .returned (.tuple #[.string r1, .bool r2]) ∧ Below w.heap.size w w' := by
 have HB := ak (Below.refl w.heap.size w)
 have H : ((gI.f a0 (⟨#[110, 111, 100, 101, 47]⟩ : ByteArray)).bind fun wK => (some (wK.1, wK.2))) = some (r1, r2) := h
 clear h
 replace H := Option.bind_eq_some_iff.mp H
 obtain ⟨⟨K9, K8⟩, eS, H⟩ := H
 replace H : (some (K9, K8)) = some (r1, r2) := H
 have A2 := ak eS
 clear eS
 simp only [Option.some.injEq, Prod.mk.injEq] at H
 obtain ⟨rfl, rfl⟩ := H
 go_enter Tryz.func60, Tryz.ntmps60
 go_wp2_with (first | ((with_reducible refine au (f := 94) rfl ?_); refine gC (some 5) Tryz.func94 #[.string a0, .string (⟨#[110, 111, 100, 101, 47]⟩ : ByteArray)] ?_; (with_reducible refine (gI.calls a0 (⟨#[110, 111, 100, 101, 47]⟩ : ByteArray) K9 K8 _ A2.out).mono ?_); rintro e w3 ⟨rfl, hb⟩; refine ⟨_, rfl, ?_⟩; replace HB := bs hb; (try clear hb); (try clear aU); (try clear hk); (try clear hi)))
 go_ret2
 exact ⟨rg, bl⟩
end
section
attribute [local go_sem] bq bn bI bH aW aV bp bj
def fV.f (a0 : ByteArray) (a1 : Int) (a2 : Int) : Option (Int × Bool) := if (a0.size : Int) = 2 then (if 0 < (a0.size : Int) then (if (bt a0 0) = a1 then (if 1 < (a0.size : Int) then (if (bt a0 1) > a2 then (some (0, false)) else (some (wrap64 (bt a0 1), true))) else (none)) else (some (0, false))) else (none)) else (some (0, false))
set_option maxHeartbeats 8000000 in
set_option maxRecDepth 100000 in
theorem fV.calls (a0 : ByteArray) (a1 : Int) (a2 : Int) (r1 : Int) (r2 : Bool) (w : World) (h : fV.f a0 a1 a2 = some (r1, r2)) :
  Calls Tryz.prog 93 #[.string a0, .int .u8 a1, .int .u8 a2] w fun e w' => e = .returned (.tuple #[.int .i64 r1, .bool r2]) ∧ Drawn0 w w' := by
 have H : (if (a0.size : Int) = 2 then (if 0 < (a0.size : Int) then (if (bt a0 0) = a1 then (if 1 < (a0.size : Int) then (if (bt a0 1) > a2 then (some (0, false)) else (some (wrap64 (bt a0 1), true))) else (none)) else (some (0, false))) else (none)) else (some (0, false))) = some (r1, r2) := h
 clear h
 by_cases c4 : (a0.size : Int) = 2
 ·rw [if_pos c4] at H
  have eQ : ((a0.size : Int) == 2) = true := beq_iff_eq.mpr c4
  have Aw : ((a0.size : Int) != 2) = false := bne_eq_false_iff_eq.mpr c4
  clear c4
  by_cases c5 : 0 < (a0.size : Int)
  ·rw [if_pos c5] at H
   have nF := decide_eq_true c5
   have xt : decide (0 < a0.size) = true := decide_eq_true (by omega)
   clear c5
   by_cases c7 : (bt a0 0) = a1
   ·rw [if_pos c7] at H
    have qV : ((bt a0 0) == a1) = true := beq_iff_eq.mpr c7
    have Av : ((bt a0 0) != a1) = false := bne_eq_false_iff_eq.mpr c7
    clear c7
    by_cases c8 : 1 < (a0.size : Int)
    ·rw [if_pos c8] at H
     have qU := decide_eq_true c8
     have CR : decide (1 < a0.size) = true := decide_eq_true (by omega)
     clear c8
     by_cases c10 : (bt a0 1) > a2
     ·rw [if_pos c10] at H
      have zp := decide_eq_true c10
      clear c10
      simp only [Option.some.injEq, Prod.mk.injEq] at H
      obtain ⟨rfl, rfl⟩ := H
      have p6 : 0 ≤ (0 : Int) := (by omega)
      have q6 : 0 < a0.size := (by have : (0 : Int) < (a0.size : Int) := od; omega)
      have Mh : ∀ h : 0 < a0.size, ((a0[0]'h).toNat : Int) = bt a0 0 := fi a0 0
      clear p6
      have Yb : (0 < (a0.size : Int)) = True := eq_true (od)
      replace q6 := eq_true q6
      have p9 : 0 ≤ (1 : Int) := (by omega)
      have q9 : 1 < a0.size := (by have : (1 : Int) < (a0.size : Int) := od; omega)
      have eP : ∀ h : 1 < a0.size, ((a0[1]'h).toNat : Int) = bt a0 1 := fi a0 1
      clear p9
      have qi9 : (1 < (a0.size : Int)) = True := eq_true (od)
      replace q9 := eq_true q9
      go_enter Tryz.func93, Tryz.ntmps93
      go_wp2
      go_ret2
      exact ⟨rf, dl⟩
     ·rw [if_neg c10] at H
      have zp := decide_eq_false c10
      clear c10
      simp only [Option.some.injEq, Prod.mk.injEq] at H
      obtain ⟨rfl, rfl⟩ := H
      have p6 : 0 ≤ (0 : Int) := (by omega)
      have q6 : 0 < a0.size := (by have : (0 : Int) < (a0.size : Int) := od; omega)
      have Mh : ∀ h : 0 < a0.size, ((a0[0]'h).toNat : Int) = bt a0 0 := fi a0 0
      clear p6
      have Yb : (0 < (a0.size : Int)) = True := eq_true (od)
      replace q6 := eq_true q6
      have p9 : 0 ≤ (1 : Int) := (by omega)
      have q9 : 1 < a0.size := (by have : (1 : Int) < (a0.size : Int) := od; omega)
      have eP : ∀ h : 1 < a0.size, ((a0[1]'h).toNat : Int) = bt a0 1 := fi a0 1
      clear p9
      have qi9 : (1 < (a0.size : Int)) = True := eq_true (od)
      replace q9 := eq_true q9
      have p11 : 0 ≤ (1 : Int) := (by omega)
      have Yd : 1 < a0.size := (by have : (1 : Int) < (a0.size : Int) := od; omega)
      have aQ7 : ∀ h : 1 < a0.size, ((a0[1]'h).toNat : Int) = bt a0 1 := fi a0 1
      clear p11
      have aQ0 : (1 < (a0.size : Int)) = True := eq_true (od)
      replace Yd := eq_true Yd
      go_enter Tryz.func93, Tryz.ntmps93
      go_wp2
      go_ret2
      exact ⟨rf, dl⟩
    ·rw [if_neg c8] at H
     exact absurd H (by simp)
   ·rw [if_neg c7] at H
    have qV : ((bt a0 0) == a1) = false := beq_eq_false_iff_ne.mpr c7
    have Av : ((bt a0 0) != a1) = true := bne_iff_ne.mpr c7
    simp only [Option.some.injEq, Prod.mk.injEq] at H
    obtain ⟨rfl, rfl⟩ := H
    have p6 : 0 ≤ (0 : Int) := (by omega)
    have q6 : 0 < a0.size := (by have : (0 : Int) < (a0.size : Int) := od; omega)
    have Mh : ∀ h : 0 < a0.size, ((a0[0]'h).toNat : Int) = bt a0 0 := fi a0 0
    clear p6
    have Yb : (0 < (a0.size : Int)) = True := eq_true (od)
    replace q6 := eq_true q6
    go_enter Tryz.func93, Tryz.ntmps93
    go_wp2
    go_ret2
    exact ⟨rf, dl⟩
  ·rw [if_neg c5] at H
   exact absurd H (by simp)
 ·rw [if_neg c4] at H
  have eQ : ((a0.size : Int) == 2) = false := beq_eq_false_iff_ne.mpr c4
  have Aw : ((a0.size : Int) != 2) = true := bne_iff_ne.mpr c4
  simp only [Option.some.injEq, Prod.mk.injEq] at H
  obtain ⟨rfl, rfl⟩ := H
  go_enter Tryz.func93, Tryz.ntmps93
  go_wp2
  go_ret2
  exact ⟨rf, dl⟩
end
section
attribute [local go_sem] bq bn bI bH aW aV bp bj
def lh.f (a0 : ByteArray) : Option (Int × Int) := (fV.f a0 65 3).bind fun qZ => (if qZ.2 = true then (if qZ.1 < 1 then (some (0, 3)) else (some (qZ.1, 0))) else (some (0, 3)))
set_option maxHeartbeats 8000000 in
set_option maxRecDepth 100000 in
theorem lh.calls (a0 : ByteArray) (r1 : Int) (r2 : Int) (w : World) (h : lh.f a0 = some (r1, r2)) :
  Calls Tryz.prog 57 #[.string a0] w fun e w' => e = .returned (.tuple #[.int .i64 r1, .int .i64 r2]) ∧ Drawn0 w w' := by
 have H : ((fV.f a0 65 3).bind fun qZ => (if qZ.2 = true then (if qZ.1 < 1 then (some (0, 3)) else (some (qZ.1, 0))) else (some (0, 3)))) = some (r1, r2) := h
 clear h
 replace H := Option.bind_eq_some_iff.mp H
 obtain ⟨⟨ru, Lc⟩, eS, H⟩ := H
 replace H : (if Lc = true then (if ru < 1 then (some (0, 3)) else (some (ru, 0))) else (some (0, 3))) = some (r1, r2) := H
 have A2 := ak eS
 clear eS
 by_cases c3 : Lc = true
 ·subst c3
  replace H : (if ru < 1 then (some (0, 3)) else (some (ru, 0))) = some (r1, r2) := by rw [if_pos rfl] at H; exact H
  by_cases c4 : ru < 1
  ·rw [if_pos c4] at H
   have eQ := decide_eq_true c4
   clear c4
   simp only [Option.some.injEq, Prod.mk.injEq] at H
   obtain ⟨rfl, rfl⟩ := H
   go_enter Tryz.func57, Tryz.ntmps57
   go_wp2_with (first | ((with_reducible refine au (f := 93) rfl ?_); refine gC (some 8) Tryz.func93 #[.string a0, .int .u8 65, .int .u8 3] ?_; (with_reducible refine (fV.calls a0 65 3 ru true _ A2.out).mono ?_); rintro e w' ⟨rfl, ⟨nd, rfl⟩⟩; refine ⟨_, rfl, ?_⟩))
   go_ret2
   exact ⟨rf, dl⟩
  ·rw [if_neg c4] at H
   have eQ := decide_eq_false c4
   clear c4
   simp only [Option.some.injEq, Prod.mk.injEq] at H
   obtain ⟨rfl, rfl⟩ := H
   go_enter Tryz.func57, Tryz.ntmps57
   go_wp2_with (first | ((with_reducible refine au (f := 93) rfl ?_); refine gC (some 8) Tryz.func93 #[.string a0, .int .u8 65, .int .u8 3] ?_; (with_reducible refine (fV.calls a0 65 3 ru true _ A2.out).mono ?_); rintro e w' ⟨rfl, ⟨nd, rfl⟩⟩; refine ⟨_, rfl, ?_⟩))
   go_ret2
   exact ⟨rf, dl⟩
 ·replace c3 := Bool.eq_false_iff.mpr c3
  subst c3
  replace H : (some (0, 3)) = some (r1, r2) := by rw [if_neg (show ¬ (false = true) by decide)] at H; exact H
  simp only [Option.some.injEq, Prod.mk.injEq] at H
  obtain ⟨rfl, rfl⟩ := H
  go_enter Tryz.func57, Tryz.ntmps57
  go_wp2_with (first | ((with_reducible refine au (f := 93) rfl ?_); refine gC (some 8) Tryz.func93 #[.string a0, .int .u8 65, .int .u8 3] ?_; (with_reducible refine (fV.calls a0 65 3 ru false _ A2.out).mono ?_); rintro e w' ⟨rfl, ⟨nd, rfl⟩⟩; refine ⟨_, rfl, ?_⟩))
  go_ret2
  exact ⟨rf, dl⟩
end
section
attribute [local go_sem] bq bn bI bH aW aV bp bj
def kx.f (a0 : ByteArray) : Option (Bool × Int) := (fV.f a0 78 1).bind fun wJ => (if wJ.2 = true then (some ((wJ.1 == 1), 0)) else (some (false, 3)))
set_option maxHeartbeats 8000000 in
set_option maxRecDepth 100000 in
theorem kx.calls (a0 : ByteArray) (r1 : Bool) (r2 : Int) (w : World) (h : kx.f a0 = some (r1, r2)) :
  Calls Tryz.prog 61 #[.string a0] w fun e w' => e = .returned (.tuple #[.bool r1, .int .i64 r2]) ∧ Drawn0 w w' := by
 have H : ((fV.f a0 78 1).bind fun wJ => (if wJ.2 = true then (some ((wJ.1 == 1), 0)) else (some (false, 3)))) = some (r1, r2) := h
 clear h
 replace H := Option.bind_eq_some_iff.mp H
 obtain ⟨⟨AO, K7⟩, eS, H⟩ := H
 replace H : (if K7 = true then (some ((AO == 1), 0)) else (some (false, 3))) = some (r1, r2) := H
 have A2 := ak eS
 clear eS
 by_cases c3 : K7 = true
 ·subst c3
  replace H : (some ((AO == 1), 0)) = some (r1, r2) := by rw [if_pos rfl] at H; exact H
  simp only [Option.some.injEq, Prod.mk.injEq] at H
  obtain ⟨rfl, rfl⟩ := H
  go_enter Tryz.func61, Tryz.ntmps61
  go_wp2_with (first | ((with_reducible refine au (f := 93) rfl ?_); refine gC (some 8) Tryz.func93 #[.string a0, .int .u8 78, .int .u8 1] ?_; (with_reducible refine (fV.calls a0 78 1 AO true _ A2.out).mono ?_); rintro e w' ⟨rfl, ⟨nd, rfl⟩⟩; refine ⟨_, rfl, ?_⟩))
  go_ret2
  exact ⟨rf, dl⟩
 ·replace c3 := Bool.eq_false_iff.mpr c3
  subst c3
  replace H : (some (false, 3)) = some (r1, r2) := by rw [if_neg (show ¬ (false = true) by decide)] at H; exact H
  simp only [Option.some.injEq, Prod.mk.injEq] at H
  obtain ⟨rfl, rfl⟩ := H
  go_enter Tryz.func61, Tryz.ntmps61
  go_wp2_with (first | ((with_reducible refine au (f := 93) rfl ?_); refine gC (some 8) Tryz.func93 #[.string a0, .int .u8 78, .int .u8 1] ?_; (with_reducible refine (fV.calls a0 78 1 AO false _ A2.out).mono ?_); rintro e w' ⟨rfl, ⟨nd, rfl⟩⟩; refine ⟨_, rfl, ?_⟩))
  go_ret2
  exact ⟨rf, dl⟩
end
section
attribute [local go_sem] bq bn bI bH aW aV bp bj
def oX.f (aI : ByteArray) (ax : ByteArray) (iL : Int) : Option (Bool) := if aI.toList = ([108, 111, 99, 107] : List UInt8) then (some (ax.toList == ([76] : List UInt8))) else (some false)
set_option maxHeartbeats 8000000 in
set_option maxRecDepth 100000 in
theorem oX.calls (aI : ByteArray) (ax : ByteArray) (iL : Int) (r : Bool) (w : World) (h : oX.f aI ax iL = some r) :
  Calls Tryz.prog 28 #[.agg #[.string aI, .string ax, .int .i64 iL]] w fun e w' => e = .returned (.bool r) ∧ Below w.heap.size w w' := by
 have Zs := Tryz.underlying58
 have HB := ak (Below.refl w.heap.size w)
 have H : (if aI.toList = ([108, 111, 99, 107] : List UInt8) then (some (ax.toList == ([76] : List UInt8))) else (some false)) = some r := h
 clear h
 by_cases c2 : aI.toList = ([108, 111, 99, 107] : List UInt8)
 ·rw [if_pos c2] at H
  have ig : (aI.toList == ([108, 111, 99, 107] : List UInt8)) = true := beq_iff_eq.mpr c2
  have yF : (aI.toList != ([108, 111, 99, 107] : List UInt8)) = false := bne_eq_false_iff_eq.mpr c2
  clear c2
  obtain rfl := Option.some.inj H
  go_enter Tryz.func28, Tryz.ntmps28
  go_wp2_with (first | ((with_reducible refine af (N := 1) rfl ?_); refine bE (N := 1) (cs := #[.string aI, .string ax, .int .i64 iL]) (t := 58) ?_; intro wB hg w3 hbox hb; have jX := ak (hbox); have SU := ak (gl hg : w.heap.size ≤ wB); have SY := ak (gl hg : w.heap.size ≤ wB); replace HB := bs hb; clear hb hbox hg; have aF7 := cf jX 0; have aF6 := cf jX 1; have aF5 := cf jX 2; have aE2 := J jX.out 0; have aE1 := J jX.out 1; have aE0 := J jX.out 2))
  go_ret
  exact ⟨rg, bl⟩
 ·rw [if_neg c2] at H
  have ig : (aI.toList == ([108, 111, 99, 107] : List UInt8)) = false := beq_eq_false_iff_ne.mpr c2
  have yF : (aI.toList != ([108, 111, 99, 107] : List UInt8)) = true := bne_iff_ne.mpr c2
  obtain rfl := Option.some.inj H
  go_enter Tryz.func28, Tryz.ntmps28
  go_wp2_with (first | ((with_reducible refine af (N := 1) rfl ?_); refine bE (N := 1) (cs := #[.string aI, .string ax, .int .i64 iL]) (t := 58) ?_; intro wB hg w5 hbox hb; have jX := ak (hbox); have SU := ak (gl hg : w.heap.size ≤ wB); have SY := ak (gl hg : w.heap.size ≤ wB); replace HB := bs hb; clear hb hbox hg; have yu := cf jX 0; have yt := cf jX 1; have FI := cf jX 2; have yr := J jX.out 0; have yq := J jX.out 1; have FE := J jX.out 2))
  go_ret
  exact ⟨rg, bl⟩
end
section
def dk (p s : ByteArray) : Option ByteArray := if p.data.toList <+: s.data.toList then some (s.extract p.size s.size) else none
theorem ES (p t : ByteArray) : dk p (p ++ t) = some t := by
 unfold dk
 rw [if_pos (by rw [eV]; exact List.prefix_append _ _)]
 congr 1
 apply fh
 rw [Lib.extract_to_end, eV, ← cG p]
 simp
theorem lL {p s t : ByteArray} (h : dk p s = some t) : s = p ++ t := by
 unfold dk at h
 split at h
 ·next hp =>
  obtain ⟨u, hu⟩ := hp
  have h := Option.some.inj h
  subst h
  apply fh
  rw [eV, Lib.extract_to_end, ← hu, ← cG p]
  simp
 ·cases h
theorem Dk {p s : ByteArray} (h : dk p s = none) (t : ByteArray) : s ≠ p ++ t := fun e => by
 rw [e, ES] at h
 cases h
theorem xc (p s : ByteArray) : strings_CutPrefix.f s p = some (match dk p s with | some t => (t, true) | none => (s, false)) := by
 cases h : dk p s with
 | some t => rw [lL h, QZ]
 | none =>
  rcases Ii s p with ⟨q, h1, h2⟩ | h1
  ·exact absurd (LB h2).2 (Dk h q)
  ·exact h1
theorem dQ (p s : ByteArray) : aq.f s p = some (match dk p s with | some t => (t, true) | none => (⟨#[]⟩, false)) := by
 cases h : dk p s with
 | some t => rw [lL h]; exact BR p t
 | none => exact DP s p (Dk h)
theorem lM {p s t : ByteArray} (h : dk p s = some t) : t.size ≤ s.size := by
 rw [lL h, ByteArray.size_append]
 omega
theorem cE {p q s t : ByteArray} {c d : UInt8} (h : dk p s = some t) (hp : p.data.toList.head? = some c) (hq : q.data.toList.head? = some d) (hcd : c ≠ d) : dk q s = none := by
 cases h2 : dk q s with
 | none => rfl
 | some u =>
  have h3 := congrArg (fun b : ByteArray => b.data.toList.head?) ((lL h).symm.trans (lL h2))
  simp only [eV, List.head?_append, hp, hq, Option.some_or, Option.some.injEq] at h3
  exact absurd h3 hcd
def oP (key : ByteArray) : Int × Int × Bool := match dk jh key with | some t => (match fZ t with | some (v, n) => if n ≤ 26 then ((v : Int), (n : Int), true) else (0, 0, false) | none => (0, 0, false)) | none => (0, 0, false)
def oB (key : ByteArray) : Int × Bool := match (dk iY key).bind oL with | some v => ((v : Int), true) | none => (0, false)
def oA (key : ByteArray) : ByteArray × Int × Bool := match (dk ni key).bind (fun t => if bU (bY 47 t).1 = true then (oL (bY 47 t).2.1).map fun v => ((bY 47 t).1, v) else none) with | some (s, v) => (s, (v : Int), true) | none => (⟨#[]⟩, 0, false)
def oN (p key : ByteArray) : ByteArray × Bool := match dk p key with | some t => if bU t = true then (t, true) else (⟨#[]⟩, false) | none => (⟨#[]⟩, false)
theorem Zi (key : ByteArray) (hs : key.size ≤ 1000) : lq.f 4 key = some (oP key) := by
 unfold lq.f oP
 rw [show (⟨#[112, 111, 111, 108, 47]⟩ : ByteArray) = jh from rfl, xc]
 cases h : dk jh key with
 | some t =>
  rw [Option.bind_some, Ce t (by have := lM h; omega) 4 (by omega), Option.bind_some, if_pos rfl]
  cases hb : fZ t with
  | none => simp only [hb]; rfl
  | some r =>
   obtain ⟨v, n⟩ := r
   simp only [hb]
   by_cases hn : n ≤ 26
   ·rw [if_pos hn, if_pos trivial, if_neg (by omega)]
   ·rw [if_neg hn, if_pos trivial, if_pos (by omega)]
 | none =>
  rw [Option.bind_some, Ce key hs 4 (by omega), Option.bind_some]
  rfl
theorem Zk (key : ByteArray) (hs : key.size ≤ 1000) : kz.f 4 key = some (oB key) := by
 unfold kz.f oB
 rw [show (⟨#[98, 108, 111, 99, 107, 47]⟩ : ByteArray) = iY from rfl, xc]
 cases h : dk iY key with
 | some t =>
  rw [Option.bind_some, pd t (by have := lM h; omega) 4 (by omega), Option.bind_some, if_pos rfl, Option.bind_some]
  cases hb : oL t with
  | none => simp only [Option.bind_some, hb]; rfl
  | some v => simp only [Option.bind_some, hb]; rfl
 | none =>
  rw [Option.bind_some, pd key hs 4 (by omega), Option.bind_some]
  rfl
theorem NP (key : ByteArray) (hs : key.size ≤ 1000) : iU.f 4 key = some (oA key) := by
 have hcut : ∀ t : ByteArray, t.size ≤ 1000 → strings_Cut.f t (⟨#[47]⟩ : ByteArray) = some (bY 47 t) := fun t ht => by
  unfold strings_Cut.f
  rw [if_pos (by first | omega | (dsimp only; omega))]
 unfold iU.f bP.f oA
 rw [show (⟨#[97, 102, 102, 47]⟩ : ByteArray) = ni from rfl, xc]
 cases h : dk ni key with
 | some t =>
  have h1 := lM h
  have hz := pE 47 t
  rw [Option.bind_some, hcut t (by first | omega | (dsimp only; omega)), Option.bind_some, pd _ (by first | omega | (dsimp only; omega)) 4 (by omega), Option.bind_some, if_pos rfl, Option.bind_some]
  cases hb : oL (bY 47 t).2.1 with
  | none => cases hr : bU (bY 47 t).1 <;> simp [hb, hr]
  | some v =>
   rw [if_pos rfl, Option.bind_some]
   cases hr : bU (bY 47 t).1 <;> simp [hb, hr]
 | none =>
  have hz := pE 47 key
  rw [Option.bind_some, hcut key hs, Option.bind_some, pd _ (by first | omega | (dsimp only; omega)) 4 (by omega), Option.bind_some]
  rfl
theorem TI (key p : ByteArray) : gI.f key p = some (oN p key) := by
 unfold gI.f bP.f oN
 rw [xc]
 cases h : dk p key with
 | some t =>
  rw [Option.bind_some, if_pos rfl, Option.bind_some]
  cases hr : bU t <;> simp [hr]
 | none => rfl
theorem Zj (key : ByteArray) : jT.f key = some (oN fa key) := by
 unfold jT.f
 rw [show (⟨#[104, 97, 110, 100, 108, 101, 47]⟩ : ByteArray) = fa from rfl, TI, Option.bind_some]
theorem Q3 (key : ByteArray) : lr.f key = some (oN iT key) := by
 unfold lr.f
 rw [show (⟨#[110, 111, 100, 101, 47]⟩ : ByteArray) = iT from rfl, TI, Option.bind_some]
def sq (s : ByteArray) (a m : Int) : Int × Bool := if (s.size : Int) = 2 ∧ bt s 0 = a ∧ ¬ bt s 1 > m then (wrap64 (bt s 1), true) else (0, false)
theorem KX (s : ByteArray) (a m : Int) : fV.f s a m = some (sq s a m) := by
 unfold fV.f sq
 by_cases h : (s.size : Int) = 2
 ·rw [if_pos h, if_pos (by omega)]
  by_cases h2 : bt s 0 = a
  ·rw [if_pos h2, if_pos (by omega)]
   by_cases h3 : bt s 1 > m
   ·rw [if_pos h3, if_neg (fun q => q.2.2 h3)]
   ·rw [if_neg h3, if_pos ⟨h, h2, h3⟩]
  ·rw [if_neg h2, if_neg (fun q => h2 q.2.1)]
 ·rw [if_neg h, if_neg (fun q => h q.1)]
def l7 (s : ByteArray) : Int × Int := if (sq s 65 3).2 = true ∧ ¬ (sq s 65 3).1 < 1 then ((sq s 65 3).1, 0) else (0, 3)
theorem Ve (s : ByteArray) : lh.f s = some (l7 s) := by
 unfold lh.f l7
 rw [KX, Option.bind_some]
 by_cases h : (sq s 65 3).2 = true
 ·rw [if_pos h]
  by_cases h2 : (sq s 65 3).1 < 1
  ·rw [if_pos h2, if_neg (fun q => q.2 h2)]
  ·rw [if_neg h2, if_pos ⟨h, h2⟩]
 ·rw [if_neg h, if_neg (fun q => h q.1)]
def lV (s : ByteArray) : Bool × Int := if (sq s 78 1).2 = true then ((sq s 78 1).1 == 1, 0) else (false, 3)
theorem Q5 (s : ByteArray) : kx.f s = some (lV s) := by
 unfold kx.f lV
 rw [KX, Option.bind_some]
 by_cases h : (sq s 78 1).2 = true
 ·rw [if_pos h, if_pos h]
 ·rw [if_neg h, if_neg h]
inductive Rc where
 | no
 | lock
 | pool (p : S69)
 | blk (b : Bk)
 | aff (s : ByteArray) (a k : Int)
 | hnd (s : ByteArray) (l : List Cn)
 | node (s : ByteArray) (g : Bool)
def gf (key val : ByteArray) : Bool := key.toList == ([108, 111, 99, 107] : List UInt8) && val.toList == ([76] : List UInt8)
def eT (key val : ByteArray) : Bool := (oP key).2.2 && (ez val && (((if ez val = true then ((az (r1 val).1 : Nat) : Int) else 0) == (oP key).1) && ((if ez val = true then ((az (q2 val).1 : Nat) : Int) else 0) == (oP key).2.1)))
def ie (key val : ByteArray) : Bool := (oB key).2 && (cB val && ((if cB val = true then (cd val).addr else 0) == (oB key).1))
def gy (key val : ByteArray) : Bool := (oA key).2.2 && (l7 val).2 == 0
def ic (key val : ByteArray) : Bool := (oN fa key).2 && eK val
def isNode (key val : ByteArray) : Bool := (oN iT key).2 && (lV val).2 == 0
def dt (key val : ByteArray) : Rc :=
 if gf key val = true then .lock
 else if eT key val = true then .pool ⟨⟨(az (r1 val).1 : Nat), (az (q2 val).1 : Nat)⟩, decide (az (q3 val).1 = 1)⟩
 else if ie key val = true then .blk (cd val)
 else if gy key val = true then .aff (oA key).1 (oA key).2.1 (l7 val).1
 else if ic key val = true then .hnd (oN fa key).1 (rc val).1
 else if isNode key val = true then .node (oN iT key).1 (lV val).1
 else .no
theorem TM (key val : ByteArray) (rev : Int) : oX.f key val rev = some (gf key val) := by
 unfold oX.f gf
 by_cases h : key.toList = ([108, 111, 99, 107] : List UInt8)
 ·rw [if_pos h, h]
  simp
 ·rw [if_neg h, beq_eq_false_iff_ne.2 h]
  rfl
end
section
set_option maxHeartbeats 8000000 in
set_option maxRecDepth 100000 in
theorem EH (s : ByteArray) (hs : s.size ≤ 1000000) (w : World) :
  Calls Tryz.prog 53 #[.string s] w fun e w' => e = .returned (.tuple #[.agg #[.int .u32 (if ez s = true then (az (r1 s).1 : Nat) else 0), .int .i64 (if ez s = true then (az (q2 s).1 : Nat) else 0), .bool (ez s && decide (az (q3 s).1 = 1))], .int .i64 (if ez s = true then 0 else 3)]) ∧ Below w.heap.size w w' := by
 have tV := we s
 have kk := y6 s
 have tU := NR s
 have Mr := NQ s
 have HN := ak (vy s hs)
 have H0 := ak (@JN · · · · s)
 have H1 := ak (@Py · · · · s)
 have H2 := ak (@Wx · · · · s)
 have H3 := ak (@Ww · · · · s)
 have HD := ak (@Wv · · · · s)
 have HOK : Aside0 (ez s = (nh s && (decide (az (r0 s).1 = 80) && (decide (az (q3 s).1 ≤ 1) && jS (az (r1 s).1) (az (q2 s).1))))) := ⟨rfl⟩
 have HMY := ak (G8 (az (r1 s).1) (az (q2 s).1) kk)
 generalize ez s = pok at HOK ⊢
 generalize nh s = bd at HD HOK
 generalize jS (az (r1 s).1) (az (q2 s).1) = bm at HOK HMY
 generalize az (r0 s).1 = n0 at tV H0 HOK
 generalize az (r1 s).1 = n1 at kk H1 HMY ⊢
 generalize az (q2 s).1 = n2 at tU H2 HMY ⊢
 generalize az (q3 s).1 = n3 at Mr H3 HOK ⊢
 have kb := fun (w : World) => Lib.run_convert_string_bytes (P := Tryz.prog) w 9 61 5 s Tryz.underlying9 Tryz.underlying61 Tryz.underlying5
 obtain ⟨DQ, h80⟩ : ∃ DQ, ((n0 : Int) != 80) = DQ := ⟨_, rfl⟩
 obtain ⟨b1, h1⟩ : ∃ b1, decide ((n3 : Int) > 1) = b1 := ⟨_, rfl⟩
 obtain ⟨ob, hob⟩ : ∃ ob, ((n3 : Int) == 1) = ob := ⟨_, rfl⟩
 have HOB := ak (show decide (n3 = 1) = ob by rw [← hob, Bool.eq_iff_iff]; simp; omega)
 have xy := ak (show pok = (bd && (!DQ && (!b1 && bm))) by
  rw [HOK.out, ← h80, ← h1]
  congr 1
  congr 1
  ·rw [Bool.eq_iff_iff]; simp; omega
  ·congr 1
   rw [Bool.eq_iff_iff]; simp; omega)
 have h1' : decide ((1 : Int) < (n3 : Int)) = b1 := by rw [← h1]
 rw [HOB.out]
 clear HOK
 have hcs : (bd = true ∧ DQ = false ∧ b1 = false ∧ bm = true) ∨ (pok = false ∧ (bd = false ∨ (bd = true ∧ DQ = true) ∨ (bd = true ∧ DQ = false ∧ b1 = true) ∨ (bd = true ∧ DQ = false ∧ b1 = false ∧ bm = false))) := by
  rw [xy.out]
  cases bd <;> cases DQ <;> cases b1 <;> cases bm <;> simp
 rcases hcs with ⟨rfl, rfl, rfl, rfl⟩ | ⟨rfl, hcs⟩
 ·obtain rfl : pok = true := by rw [xy.out]; rfl
  rw [if_pos rfl, if_pos rfl, if_pos rfl, Bool.true_and]
  go_enter Tryz.func53, Tryz.ntmps53
  go_wp2_with (first
   | (refine aE (some 2) rfl rfl 69 rfl uN (fun _ => by kernel_rfl) ?_; intro g2 W1 dz cP aw; have HX := ak cP; have HB := ak aw; have fR := ak dz; clear cP aw dz)
   | (go_at_call 83; refine (HN.out _).mono ?_; rintro e W2 ⟨gr, v2, rfl, jk, hgr, aU⟩; have HNE := ak (show g2 ≠ gr by have := HX.out.lt; omega); have HGR := ak (show w.heap.size ≤ gr by have := HB.out.size; omega); replace HX := ak (HX.out.below aU); replace HB := ak (HB.out.trans (aU.mono HB.out.size)); have wT := ak jk; have HSZ := ak (Nat.le_refl W2.heap.size); clear jk hgr aU HN)
   | (go_at_call 84; refine (H0.out _ _ _ _ wT.out).mono ?_; rintro e W3 ⟨v3, rfl, fP, dd⟩; have je := ak fP; clear wT; replace HX := ak (HX.out.grown dd (fun e => HNE.out (Option.some.inj e))); replace HB := ak (HB.out.grown dd HB.out.size (by intro k hk; cases hk; exact HGR.out)); replace HSZ := ak (Nat.le_trans HSZ.out dd.size); clear fP dd)
   | (go_at_call 84; refine (H1.out _ _ _ _ je.out).mono ?_; rintro e W4 ⟨v4, rfl, fP, dd⟩; have jr := ak fP; clear je; replace HX := ak (HX.out.grown dd (fun e => HNE.out (Option.some.inj e))); replace HB := ak (HB.out.grown dd HB.out.size (by intro k hk; cases hk; exact HGR.out)); replace HSZ := ak (Nat.le_trans HSZ.out dd.size); clear fP dd)
   | (go_at_call 84; refine (H2.out _ _ _ _ jr.out).mono ?_; rintro e W5 ⟨v5, rfl, fP, dd⟩; have kN := ak fP; clear jr; replace HX := ak (HX.out.grown dd (fun e => HNE.out (Option.some.inj e))); replace HB := ak (HB.out.grown dd HB.out.size (by intro k hk; cases hk; exact HGR.out)); replace HSZ := ak (Nat.le_trans HSZ.out dd.size); clear fP dd)
   | ((with_reducible refine af (N := 19) rfl ?_); refine dh rfl 67 #[(0, .tmp 15), (1, .tmp 18)] rfl [(0, .int .u32 (n1 : Int)), (1, .int .i64 (n2 : Int))] (by simp only [List.map_toArray, List.map_cons, List.map_nil]; rfl) [Value.int .u32 (n1 : Int), .int .i64 (n2 : Int)] (IY _ _) ?_)
   | ((with_reducible refine af (N := 20) rfl ?_); refine dh rfl 69 #[(0, .tmp 19)] rfl [(0, .agg #[.int .u32 (n1 : Int), .int .i64 (n2 : Int)])] (by simp only [List.map_toArray, List.map_cons, List.map_nil]; rfl) [Value.int .u32 (n1 : Int), .int .i64 (n2 : Int), .bool false] (IX _ _) ?_)
   | (refine aE (some 6) rfl rfl 69 rfl uN (fun _ => by kernel_rfl) ?_; intro g6 W6 jD gK mj; have HY := ak gK; have qC := ak (show w.heap.size ≤ g6 by have := HB.out.size; omega); have uk := ak (show g2 ≠ g6 by have := HX.out.lt; omega); have mN := ak (show gr ≠ g6 by have := kN.out.box.lt; omega); have GB := ak (show ∀ k, ((W1.heap.size < k ∧ k ≠ gr) ∧ k < W2.heap.size) → some k ≠ some g6 from fun k hk e => by have := hk.2; have := HSZ.out; have := Option.some.inj e; omega); replace HX := ak (HX.out.below mj); replace kN := ak (kN.out.below mj); replace HB := ak (HB.out.trans (mj.mono HB.out.size)); clear gK mj jD)
   | (refine ay rfl 69 (.tmp 6) (.tmp 20) rfl g6 [Value.int .u32 (n1 : Int), .int .i64 (n2 : Int), .bool false] rfl rfl 69 _ HY.out 3 (by kernel_rfl) rfl rfl (by intro u hu; simp at hu; rcases hu with rfl | rfl | rfl <;> rfl) ?_; intro W7 Dx dq; replace HY := ak Dx; replace HX := ak (HX.out.grown dq (fun e => uk.out (Option.some.inj e))); replace kN := ak (kN.out.grown dq GB.out (fun e => mN.out (Option.some.inj e))); replace HB := ak (HB.out.grown dq HB.out.size (by intro k hk; cases hk; exact qC.out)); clear Dx dq)
   | (go_at_call 84; refine (H3.out _ _ _ _ kN.out).mono ?_; rintro e W8 ⟨v8, rfl, fP, dd⟩; have vu := ak fP; clear kN; replace HX := ak (HX.out.grown dd (fun e => HNE.out (Option.some.inj e))); replace HY := ak (HY.out.grown dd (fun e => mN.out (Option.some.inj e).symm)); replace HB := ak (HB.out.grown dd HB.out.size (by intro k hk; cases hk; exact HGR.out)); have FG := HY.out.frozen 2; have jc := HY.out.cell 2 _ rfl; clear fP dd)
   | (generalize yw : W8.setCell ⟨g6, 2, none⟩ (.bool ob) = W9; go_at_call 85; have ym : bC W9 g6 [.int .u32 (n1 : Int), .int .i64 (n2 : Int), .bool ob] 69 := (by rw [← yw]; exact HY.out.set 2 (.bool ob)); have dG : W8.grownBy W9 (some g6) := (by rw [← yw]; exact b8 W8 g6 2 (.bool ob)); have yM := ak (vu.out.grown dG GB.out (fun e => mN.out (Option.some.inj e))); clear vu; refine (HD.out _ _ _ _ yM.out).mono ?_; rintro e vq ⟨rfl, xk⟩; replace HY := ak (ym.below xk); replace HX := ak ((HX.out.grown dG (fun e => uk.out (Option.some.inj e))).below xk); have FQ := HB.out.grown dG HB.out.size (by intro k hk; cases hk; exact qC.out); replace HB := ak (FQ.trans (xk.mono FQ.size)); clear ym dG FQ xk yw FG jc)
   | ((with_reducible refine af (N := 38) rfl ?_); refine bL (by rfl) ?_; refine a7 rfl 69 (.tmp 6) rfl g6 rfl _ _ _ HY.out Tryz.underlying69 rfl 3 (by kernel_rfl) rfl ?_)
   | (go_at_call 86; refine (jR.calls (n1 : Int) (n2 : Int) ob _ _ (HMY.out ob)).mono ?_; rintro e YR ⟨rfl, xj⟩; replace HX := ak (HX.out.below xj); replace HY := ak (HY.out.below xj); replace HB := ak (HB.out.trans (xj.mono HB.out.size)); clear xj)
   | ((with_reducible refine af (N := 42) rfl ?_); refine dE rfl 69 #[] rfl uN (Gd _) ?_)
   | (refine ay rfl 69 (.tmp 2) (.tmp 42) rfl g2 uN rfl rfl 69 _ HX.out 3 (by kernel_rfl) rfl rfl (by intro u hu; simp [uN] at hu; rcases hu with rfl | rfl | rfl <;> rfl) ?_; intro Qq eP cI)
   | ((with_reducible refine af (N := 43) rfl ?_); refine a7 rfl 69 (.tmp 6) rfl g6 rfl _ _ _ HY.out Tryz.underlying69 rfl 3 (by kernel_rfl) rfl ?_)
   | (refine ay rfl 69 (.tmp 2) (.tmp 43) rfl g2 [Value.int .u32 (n1 : Int), .int .i64 (n2 : Int), .bool ob] rfl rfl 69 _ HX.out 3 (by kernel_rfl) rfl rfl (by intro u hu; simp at hu; rcases hu with rfl | rfl | rfl <;> rfl) ?_; intro Qq eP cI))
  refine bodyPost_ret (bT rfl _ _ g2 69 _ (0, 0) _ rfl eP Tryz.underlying69 rfl (by kernel_rfl)) rfl ⟨rfl, HB.out.grown cI HB.out.size (by intro k hk; cases hk; exact fR.out)⟩
 ·rw [if_neg (by decide), if_neg (by decide), if_neg (by decide), Bool.false_and]
  rcases hcs with rfl | ⟨rfl, rfl⟩ | ⟨rfl, rfl, rfl⟩ | ⟨rfl, rfl, rfl, rfl⟩
  all_goals
   go_enter Tryz.func53, Tryz.ntmps53
   go_wp2_with (first
    | (refine aE (some 2) rfl rfl 69 rfl uN (fun _ => by kernel_rfl) ?_; intro g2 W1 dz cP aw; have HX := ak cP; have HB := ak aw; have fR := ak dz; clear cP aw dz)
    | (go_at_call 83; refine (HN.out _).mono ?_; rintro e W2 ⟨gr, v2, rfl, jk, hgr, aU⟩; have HNE := ak (show g2 ≠ gr by have := HX.out.lt; omega); have HGR := ak (show w.heap.size ≤ gr by have := HB.out.size; omega); replace HX := ak (HX.out.below aU); replace HB := ak (HB.out.trans (aU.mono HB.out.size)); have wT := ak jk; have HSZ := ak (Nat.le_refl W2.heap.size); clear jk hgr aU HN)
    | (go_at_call 84; refine (H0.out _ _ _ _ wT.out).mono ?_; rintro e W3 ⟨v3, rfl, fP, dd⟩; have je := ak fP; clear wT; replace HX := ak (HX.out.grown dd (fun e => HNE.out (Option.some.inj e))); replace HB := ak (HB.out.grown dd HB.out.size (by intro k hk; cases hk; exact HGR.out)); replace HSZ := ak (Nat.le_trans HSZ.out dd.size); clear fP dd)
    | (go_at_call 84; refine (H1.out _ _ _ _ je.out).mono ?_; rintro e W4 ⟨v4, rfl, fP, dd⟩; have jr := ak fP; clear je; replace HX := ak (HX.out.grown dd (fun e => HNE.out (Option.some.inj e))); replace HB := ak (HB.out.grown dd HB.out.size (by intro k hk; cases hk; exact HGR.out)); replace HSZ := ak (Nat.le_trans HSZ.out dd.size); clear fP dd)
    | (go_at_call 84; refine (H2.out _ _ _ _ jr.out).mono ?_; rintro e W5 ⟨v5, rfl, fP, dd⟩; have kN := ak fP; clear jr; replace HX := ak (HX.out.grown dd (fun e => HNE.out (Option.some.inj e))); replace HB := ak (HB.out.grown dd HB.out.size (by intro k hk; cases hk; exact HGR.out)); replace HSZ := ak (Nat.le_trans HSZ.out dd.size); clear fP dd)
    | ((with_reducible refine af (N := 19) rfl ?_); refine dh rfl 67 #[(0, .tmp 15), (1, .tmp 18)] rfl [(0, .int .u32 (n1 : Int)), (1, .int .i64 (n2 : Int))] (by simp only [List.map_toArray, List.map_cons, List.map_nil]; rfl) [Value.int .u32 (n1 : Int), .int .i64 (n2 : Int)] (IY _ _) ?_)
    | ((with_reducible refine af (N := 20) rfl ?_); refine dh rfl 69 #[(0, .tmp 19)] rfl [(0, .agg #[.int .u32 (n1 : Int), .int .i64 (n2 : Int)])] (by simp only [List.map_toArray, List.map_cons, List.map_nil]; rfl) [Value.int .u32 (n1 : Int), .int .i64 (n2 : Int), .bool false] (IX _ _) ?_)
    | (refine aE (some 6) rfl rfl 69 rfl uN (fun _ => by kernel_rfl) ?_; intro g6 W6 jD gK mj; have HY := ak gK; have qC := ak (show w.heap.size ≤ g6 by have := HB.out.size; omega); have uk := ak (show g2 ≠ g6 by have := HX.out.lt; omega); have mN := ak (show gr ≠ g6 by have := kN.out.box.lt; omega); have GB := ak (show ∀ k, ((W1.heap.size < k ∧ k ≠ gr) ∧ k < W2.heap.size) → some k ≠ some g6 from fun k hk e => by have := hk.2; have := HSZ.out; have := Option.some.inj e; omega); replace HX := ak (HX.out.below mj); replace kN := ak (kN.out.below mj); replace HB := ak (HB.out.trans (mj.mono HB.out.size)); clear gK mj jD)
    | (refine ay rfl 69 (.tmp 6) (.tmp 20) rfl g6 [Value.int .u32 (n1 : Int), .int .i64 (n2 : Int), .bool false] rfl rfl 69 _ HY.out 3 (by kernel_rfl) rfl rfl (by intro u hu; simp at hu; rcases hu with rfl | rfl | rfl <;> rfl) ?_; intro W7 Dx dq; replace HY := ak Dx; replace HX := ak (HX.out.grown dq (fun e => uk.out (Option.some.inj e))); replace kN := ak (kN.out.grown dq GB.out (fun e => mN.out (Option.some.inj e))); replace HB := ak (HB.out.grown dq HB.out.size (by intro k hk; cases hk; exact qC.out)); clear Dx dq)
    | (go_at_call 84; refine (H3.out _ _ _ _ kN.out).mono ?_; rintro e W8 ⟨v8, rfl, fP, dd⟩; have vu := ak fP; clear kN; replace HX := ak (HX.out.grown dd (fun e => HNE.out (Option.some.inj e))); replace HY := ak (HY.out.grown dd (fun e => mN.out (Option.some.inj e).symm)); replace HB := ak (HB.out.grown dd HB.out.size (by intro k hk; cases hk; exact HGR.out)); have FG := HY.out.frozen 2; have jc := HY.out.cell 2 _ rfl; clear fP dd)
    | (generalize yw : W8.setCell ⟨g6, 2, none⟩ (.bool ob) = W9; go_at_call 85; have ym : bC W9 g6 [.int .u32 (n1 : Int), .int .i64 (n2 : Int), .bool ob] 69 := (by rw [← yw]; exact HY.out.set 2 (.bool ob)); have dG : W8.grownBy W9 (some g6) := (by rw [← yw]; exact b8 W8 g6 2 (.bool ob)); have yM := ak (vu.out.grown dG GB.out (fun e => mN.out (Option.some.inj e))); clear vu; refine (HD.out _ _ _ _ yM.out).mono ?_; rintro e vq ⟨rfl, xk⟩; replace HY := ak (ym.below xk); replace HX := ak ((HX.out.grown dG (fun e => uk.out (Option.some.inj e))).below xk); have FQ := HB.out.grown dG HB.out.size (by intro k hk; cases hk; exact qC.out); replace HB := ak (FQ.trans (xk.mono FQ.size)); clear ym dG FQ xk yw FG jc)
    | ((with_reducible refine af (N := 38) rfl ?_); refine bL (by rfl) ?_; refine a7 rfl 69 (.tmp 6) rfl g6 rfl _ _ _ HY.out Tryz.underlying69 rfl 3 (by kernel_rfl) rfl ?_)
    | (go_at_call 86; refine (jR.calls (n1 : Int) (n2 : Int) ob _ _ (HMY.out ob)).mono ?_; rintro e YR ⟨rfl, xj⟩; replace HX := ak (HX.out.below xj); replace HY := ak (HY.out.below xj); replace HB := ak (HB.out.trans (xj.mono HB.out.size)); clear xj)
    | ((with_reducible refine af (N := 42) rfl ?_); refine dE rfl 69 #[] rfl uN (Gd _) ?_)
    | (refine ay rfl 69 (.tmp 2) (.tmp 42) rfl g2 uN rfl rfl 69 _ HX.out 3 (by kernel_rfl) rfl rfl (by intro u hu; simp [uN] at hu; rcases hu with rfl | rfl | rfl <;> rfl) ?_; intro Qq eP cI)
    | ((with_reducible refine af (N := 43) rfl ?_); refine a7 rfl 69 (.tmp 6) rfl g6 rfl _ _ _ HY.out Tryz.underlying69 rfl 3 (by kernel_rfl) rfl ?_)
    | (refine ay rfl 69 (.tmp 2) (.tmp 43) rfl g2 [Value.int .u32 (n1 : Int), .int .i64 (n2 : Int), .bool ob] rfl rfl 69 _ HX.out 3 (by kernel_rfl) rfl rfl (by intro u hu; simp at hu; rcases hu with rfl | rfl | rfl <;> rfl) ?_; intro Qq eP cI))
   refine bodyPost_ret (bT rfl _ _ g2 69 _ (0, 0) _ rfl eP Tryz.underlying69 rfl (by kernel_rfl)) rfl ⟨rfl, HB.out.grown cI HB.out.size (by intro k hk; cases hk; exact fR.out)⟩
end
section
attribute [local go_sem] bq bn bI bH aW aV bp bj
def lx.f (a0 : Int) : Option (Int) := (gz.f 26).bind fun sV => (some (Go.bits .and .u32 a0 sV))
set_option maxHeartbeats 8000000 in
set_option maxRecDepth 100000 in
theorem lx.calls (a0 : Int) (r : Int) (w : World) (h : lx.f a0 = some r) :
  Calls Tryz.prog 117 #[.int .u32 a0] w fun e w' => e = .returned (.int .u32 r) ∧ Below w.heap.size w w' := by
 have HB := ak (Below.refl w.heap.size w)
 have H : ((gz.f 26).bind fun sV => (some (Go.bits .and .u32 a0 sV))) = some r := h
 clear h
 replace H := Option.bind_eq_some_iff.mp H
 obtain ⟨sV, eS, H⟩ := H
 replace H : (some (Go.bits .and .u32 a0 sV)) = some r := H
 have A2 := ak eS
 clear eS
 obtain rfl := Option.some.inj H
 go_enter Tryz.func117, Tryz.ntmps117
 go_wp2_with (first | ((with_reducible refine au (f := 74) rfl ?_); refine gC (some 4) Tryz.func74 #[.int .i64 26] ?_; (with_reducible refine (gz.calls 26 sV _ A2.out).mono ?_); rintro e w3 ⟨rfl, hb⟩; refine ⟨_, rfl, ?_⟩; replace HB := bs hb; (try clear hb); (try clear aU); (try clear hk); (try clear hi)))
 go_ret
 exact ⟨rg, bl⟩
end
section
theorem Og (n : Nat) (hn : n < 4294967296) : lx.f (n : Int) = some ((n - n % 64 : Nat) : Int) := by
 have h := ID (n : Int) (by omega) (by omega)
 have e : lx.f (n : Int) = il.f (n : Int) := rfl
 rw [e, h]
 unfold se
 congr 1
 omega
theorem F7 {l : List Cn} (h : yO l) (i : Nat) (hi : i < l.length) : (0 ≤ (ct l (i : Int)).f0 ∧ (ct l (i : Int)).f0 < 4294967296) ∧ (0 ≤ (ct l (i : Int)).f1 ∧ (ct l (i : Int)).f1 < 65536) := by
 have e : ct l (i : Int) = l[i] := by simp [ct, List.getD, hi]
 rw [e]
 exact h _ (List.getElem_mem hi)
theorem Lr {l : List Cn} {j : Nat} (hj : j < l.length) (h : nD l j = true) : kI l = false := by
 unfold kI
 rw [List.all_eq_false.2 ⟨j, List.mem_range.2 hj, by rw [h]; decide⟩]
 rfl
theorem JL {l : List Cn} (h : ∀ q, q < l.length → nD l q = false) : kI l = decide (l.length ≤ 4096) := by
 unfold kI
 rw [List.all_eq_true.2 (fun q hq => by rw [h q (List.mem_range.1 hq)]; rfl), Bool.true_and]
def vA.T4 : Bool × List (List Nat × List Nat) := (true, [([], []), ([0], [0]), ([1], [1]), ([], []), ([3], [3]), ([2, 4], [2, 4]), ([5, 2], [5]), ([6], [6]), ([7, 6], [6, 7]), ([8, 6], [6, 8]), ([6, 9], [6, 9]), ([10, 6], [10]), ([11], [11]), ([12, 11], [11, 12]), ([13, 11], [11, 13]), ([11, 14], [11, 14]), ([15, 11], [15]), ([16], [16]), ([17, 16], [16, 17]), ([18, 16, 16], [16, 18]), ([19], [19]), ([20, 19], [19, 20]), ([19], [19]), ([22, 19], [19, 22]), ([21, 23, 19], [19, 21, 23]), ([24, 19], [19, 24]), ([25, 19], [19, 25]), ([19], [19]), ([27, 19], [19, 27]), ([26, 28, 19], [19, 26, 28]), ([19, 29, 16], [16, 19, 29]), ([16, 30], [16, 30])])
def vA.B4 : List Nat := [0, 1, 3, 0, 8, 31, 63, 127, 255, 511, 1023, 2047, 4095, 8191, 16383, 32767, 65535, 131071, 262143, 524287, 1048575, 2097151, 1048575, 5242879, 16777215, 33554431, 67108863, 1048575, 135266303, 536870911, 1073741823, 2147483647]
theorem vA.tab4 : dA .any (opsOf Tryz.f96 4) = vA.T4 := by kernel_rfl
theorem vA.bits4 : dy vA.T4.2 vA.B4 = true := by kernel_rfl
set_option maxHeartbeats 8000000 in
set_option maxRecDepth 100000 in
theorem J1 (l : List Cn) (h : yO l) (hl : l.length ≤ 65535) (A : Option Addr) (c : Nat) (w : World) (hC : Kd.C sx w A l.length l) (hc : l.length ≤ c) :
  Calls Tryz.prog 96 #[.agg #[.slice A l.length c]] w fun e w' => e = .returned (.bool (kI l)) ∧ Below w.heap.size w w' := by
 have HC := ak hC
 have HK := ak h
 clear hC h
 go_enter Tryz.func96, Tryz.ntmps96
 go_wp2_with (first
  | (refine cH rfl 99 (.tmp 0) rfl [.slice A l.length c] rfl ?_; intro g1 W1 hg hbx aw; have HX := ak hbx; have HB := ak aw; have qI := ak hg; have j7 := HX.out.cell 0 _ rfl; clear hg hbx aw))
 go_loopw [3, 4, 8] (fun _ _ i Z => ∃ j : Nat, j ≤ l.length ∧ i = .int .i64 j ∧ Aside0 (∀ q, q < j → nD l q = false) ∧ Aside0 (bC Z g1 [.slice A l.length c] 99) ∧ Aside0 (Below w.heap.size w Z)) (fun _ _ i _ => l.length - (intOf i).toNat)
 case atStart => exact ⟨0, by omega, rfl, ⟨fun q hq => by omega⟩, HX, HB⟩
 case round =>
  clear j7 HX HB
  obtain ⟨j, hj, rfl, HOK, HX, HB⟩ := hrel
  obtain ⟨Z, rfl⟩ : ∃ Z : World, Z = wr := ⟨_, rfl⟩
  by_cases hjn : j < l.length
  ·have hjb : decide ((j : Int) < (l.length : Int)) = true := by simp; omega
   have p1 : ((j : Int) < (l.length : Int)) = True := eq_true (by omega)
   have hXL := HX.out.lt
   have HXL := ak hXL
   obtain ⟨pn, hpn⟩ : ∃ pn : Nat, pn = j - 1 := ⟨_, rfl⟩
   obtain ⟨ad, eA, iM, lu⟩ := CU HC.out (pn : Int) (by omega) (by omega)
   cases eA
   obtain ⟨ad', eA, j7, eD⟩ := CU (Kd.C_below HC.out HB.out) j (by omega) (by omega)
   cases eA
   rw [Int.toNat_natCast] at j7 eD iM
   have hcg := F7 HK.out j hjn
   obtain ⟨bd, hbd⟩ : ∃ bd, nD l j = bd := ⟨_, rfl⟩
   have HBD := ak hbd
   have hbad := hbd
   unfold nD at hbad
   rw [← hpn] at hbad
   obtain ⟨pv, hpv⟩ : ∃ pv, pv = (ct l (pn : Int)).f0 := ⟨_, rfl⟩
   rw [← hpv] at iM hbad
   have YP := ak iM
   obtain ⟨n, hn⟩ : ∃ n : Nat, (ct l (j : Int)).f0 = (n : Int) := ⟨(ct l (j : Int)).f0.toNat, by omega⟩
   obtain ⟨f1, xJ⟩ : ∃ f1, (ct l (j : Int)).f1 = f1 := ⟨_, rfl⟩
   rw [hn] at j7 hbad hcg
   rw [xJ] at eD hbad hcg
   have HF := ak (Og n (by omega))
   have HJL := ak hjn
   have hwr : 0 < j → wrap64 ((j : Int) - 1) = (pn : Int) := fun h0 => by rw [bB _ (by omega) (by omega)]; omega
   have q0 : (0 ≤ (pn : Int)) = True := eq_true (by omega)
   have q1 : ((pn : Int) < (l.length : Int)) = True := eq_true (by omega)
   have hways : (bd = true ∧ ((((n - n % 64 : Nat) : Int) != (n : Int)) = true ∨ ((((n - n % 64 : Nat) : Int) != (n : Int)) = false ∧ (f1 < 1 ∨ (¬ f1 < 1 ∧ (f1 > 65535 ∨ (¬ f1 > 65535 ∧ 0 < j ∧ (n : Int) ≤ pv))))))) ∨ (bd = false ∧ (((n - n % 64 : Nat) : Int) != (n : Int)) = false ∧ ¬ f1 < 1 ∧ ¬ f1 > 65535 ∧ (¬ 0 < j ∨ (0 < j ∧ ¬ (n : Int) ≤ pv))) := by
    have Qb : (((n - n % 64 : Nat) : Int) != (n : Int)) = decide ((n : Int) % 64 ≠ 0) := by rw [Bool.eq_iff_iff, bne_iff_ne, decide_eq_true_iff]; omega
    rw [Qb, ← hbad]
    by_cases d1 : (n : Int) % 64 ≠ 0
    ·rw [decide_eq_true d1]; simp
    ·rw [decide_eq_false d1]
     by_cases d2 : f1 < 1
     ·rw [decide_eq_true d2]; simp [d2]
     ·rw [decide_eq_false d2]
      by_cases d3 : f1 > 65535
      ·rw [decide_eq_true d3]; simp [d2, d3]
      ·rw [decide_eq_false d3]
       by_cases d4 : 0 < j
       ·rw [decide_eq_true d4]
        by_cases d5 : (n : Int) ≤ pv
        ·rw [decide_eq_true d5]; simp [d2, d3, d4, d5]
        ·rw [decide_eq_false d5]; simp only [Bool.false_or, Bool.true_and]; right; exact ⟨trivial, trivial, d2, d3, .inr ⟨d4, d5⟩⟩
       ·rw [decide_eq_false d4]; simp only [Bool.false_or, Bool.false_and]; right; exact ⟨trivial, trivial, d2, d3, .inl d4⟩
   clear hbad hbd hcg hn xJ hpv hpn iM lu hXL
   rcases hways with ⟨rfl, hways⟩ | ⟨rfl, Qb, d2, d3, hways⟩
   ·have HNO := ak (Lr HJL.out HBD.out)
    rcases hways with Qb | ⟨Qb, d2 | ⟨d2, d3 | ⟨d3, d4, d5⟩⟩⟩
    all_goals
     (try have YN := decide_eq_true d2)
     (try have YN := decide_eq_false d2)
     (try have YM := decide_eq_true d3)
     (try have YM := decide_eq_false d3)
     (try have YL : decide ((j : Int) > 0) = true := decide_eq_true (by omega))
     (try have UX : decide (0 < (j : Int)) = true := decide_eq_true (by omega))
     (try have Zo := hwr d4)
     (try have e42 := decide_eq_true d5)
     clear hwr
     go_wp2_with (first
      | ((with_reducible refine af (N := 4) rfl ?_); refine aE (some 4) rfl rfl 145 rfl [.int .u32 0, .int .i64 0] (fun _ => by kernel_rfl) ?_; intro g4 W4 cQ hbx hb; have my := ak hbx; have jf := ak (Nat.le_trans HB.out.size cQ); replace HX := ak (HX.out.below hb); have nU := ak (show g1 ≠ g4 by have := HXL.out; omega); replace HB := ak (HB.out.trans (hb.mono HB.out.size)); clear hb hbx cQ)
      | ((with_reducible refine cg (t := 145) (p := 4) (v := .tmp 12) rfl ?_); refine ay rfl 145 (.tmp 4) (.tmp 12) rfl g4 [.int .u32 (n : Int), .int .i64 f1] rfl rfl 145 _ my.out 2 (by kernel_rfl) rfl rfl (by intro u hu; simp at hu; rcases hu with rfl | rfl <;> rfl) ?_; intro W5 BC dH; replace HX := ak (HX.out.grown dH (fun e => nU.out (Option.some.inj e))); replace HB := ak (HB.out.grown dH HB.out.size (by intro k hk; cases hk; exact jf.out)); have qD := ak BC; clear BC dH my))
     have qJ := ak (qD.out.below (bu (Below.refl W5.heap.size W5)))
     have qH := ak (HX.out.below (bu (Below.refl W5.heap.size W5)))
     have jg := ak (HB.out.trans ((bu (Below.refl W5.heap.size W5)).mono HB.out.size))
     have HD := ak (Below.refl W5.drew.heap.size W5.drew)
     clear HX qD HB
     refine dV (n := 32) (S := fun w' => Below W5.drew.heap.size W5.drew w') (ds := []) #[false, false, false, false, false, false, false, false, false, false, false, false, false, false, false, false, false, false, false, false, false, false, false, false, false, false, false, false, false, false, false, false] (by kernel_rfl) rfl rfl (Below.refl _ _) (fun hHeld => ?_); refine cz vA.tab4 vA.bits4 (fun aa bV => ?_)
     refine pu 0 aa.out ?_
     refine tk 1 aa.out bV.out hHeld ?_ (hv := by intro w' bx; have x0 := (qJ.out.below bx).cell 0 _ rfl; go_simp; with_reducible rfl)
     refine pu 3 aa.out ?_
     refine tk 4 aa.out bV.out hHeld ?_ (hv := by intro w' bx; have x0 := (qJ.out.below bx).cell 0 _ rfl; go_simp; with_reducible rfl)
     refine on 2 aa.out (fun K hK => ?_)
     refine gs Tryz.func117 #[.int .u32 (n : Int)] (lx.calls _ _ _ HF.out) ?_
     rintro e V2 ⟨rfl, ao⟩
     refine ⟨_, rfl, ?_⟩
     replace HD := mv ao HD; clear ao
     refine kn hK HD.out (fun hHeld => ?_)
     clear hK K
     refine pu 5 aa.out ?_
     refine pu 6 aa.out ?_
     first | refine pu 7 aa.out ?_ | refine po 7 aa.out ?_
     first | refine tk 8 aa.out bV.out hHeld ?_ (hv := by intro w' bx; have x0 := (qJ.out.below bx).cell 1 _ rfl; go_simp; with_reducible rfl) | refine po 8 aa.out ?_
     first | refine pu 9 aa.out ?_ | refine po 9 aa.out ?_
     refine pu 10 aa.out ?_
     refine pu 11 aa.out ?_
     first | refine pu 12 aa.out ?_ | refine po 12 aa.out ?_
     first | refine tk 13 aa.out bV.out hHeld ?_ (hv := by intro w' bx; have x0 := (qJ.out.below bx).cell 1 _ rfl; go_simp; with_reducible rfl) | refine po 13 aa.out ?_
     first | refine pu 14 aa.out ?_ | refine po 14 aa.out ?_
     refine pu 15 aa.out ?_
     refine pu 16 aa.out ?_
     first | refine pu 17 aa.out ?_ | refine po 17 aa.out ?_
     first | refine pu 18 aa.out ?_ | refine po 18 aa.out ?_
     first | refine pu 19 aa.out ?_ | refine po 19 aa.out ?_
     first | refine pu 20 aa.out ?_ | refine po 20 aa.out ?_
     first | refine tk 21 aa.out bV.out hHeld ?_ (hv := by intro w' bx; have x0 := (qH.out.below bx).cell 0 _ rfl; go_simp; with_reducible rfl) | refine po 21 aa.out ?_
     first | refine pu 22 aa.out ?_ | refine po 22 aa.out ?_
     first | refine pu 23 aa.out ?_ | refine po 23 aa.out ?_
     first | refine pu 24 aa.out ?_ | refine po 24 aa.out ?_
     first | refine pu 25 aa.out ?_ | refine po 25 aa.out ?_
     first | refine tk 26 aa.out bV.out hHeld ?_ (hv := by intro w' bx; have x0 := ((jg.out.trans (bx.mono jg.out.size)).cell (World.block_lt_of_cell? w _ YP.out)).trans YP.out; go_simp; with_reducible rfl) | refine po 26 aa.out ?_
     first | refine pu 27 aa.out ?_ | refine po 27 aa.out ?_
     first | refine tk 28 aa.out bV.out hHeld ?_ (hv := by intro w' bx; have x0 := (qJ.out.below bx).cell 0 _ rfl; go_simp; with_reducible rfl) | refine po 28 aa.out ?_
     first | refine pu 29 aa.out ?_ | refine po 29 aa.out ?_
     first | refine pu 30 aa.out ?_ | refine po 30 aa.out ?_
     refine pu 31 aa.out ?_
     refine dn aa.out ?_
     go_wp2
     go_ret
     exact ⟨by first | (rw [HNO.out]; done) | (rw [HNO.out]; rfl), jg.out.trans (HD.out.mono jg.out.size)⟩
   ·have YN := decide_eq_false d2
    have YM := decide_eq_false d3
    rcases hways with d4 | ⟨d4, d5⟩
    all_goals
     (try have YL : decide ((j : Int) > 0) = true := decide_eq_true (by omega))
     (try have UX : decide (0 < (j : Int)) = true := decide_eq_true (by omega))
     (try have YL : decide ((j : Int) > 0) = false := decide_eq_false (by omega))
     (try have UX : decide (0 < (j : Int)) = false := decide_eq_false (by omega))
     (try have Zo := hwr d4)
     (try have e42 := decide_eq_false d5)
     clear hwr
     go_wp2_with (first
      | ((with_reducible refine af (N := 4) rfl ?_); refine aE (some 4) rfl rfl 145 rfl [.int .u32 0, .int .i64 0] (fun _ => by kernel_rfl) ?_; intro g4 W4 cQ hbx hb; have my := ak hbx; have jf := ak (Nat.le_trans HB.out.size cQ); replace HX := ak (HX.out.below hb); have nU := ak (show g1 ≠ g4 by have := HXL.out; omega); replace HB := ak (HB.out.trans (hb.mono HB.out.size)); clear hb hbx cQ)
      | ((with_reducible refine cg (t := 145) (p := 4) (v := .tmp 12) rfl ?_); refine ay rfl 145 (.tmp 4) (.tmp 12) rfl g4 [.int .u32 (n : Int), .int .i64 f1] rfl rfl 145 _ my.out 2 (by kernel_rfl) rfl rfl (by intro u hu; simp at hu; rcases hu with rfl | rfl <;> rfl) ?_; intro W5 BC dH; replace HX := ak (HX.out.grown dH (fun e => nU.out (Option.some.inj e))); replace HB := ak (HB.out.grown dH HB.out.size (by intro k hk; cases hk; exact jf.out)); have qD := ak BC; clear BC dH my))
     have qJ := ak (qD.out.below (bu (Below.refl W5.heap.size W5)))
     have qH := ak (HX.out.below (bu (Below.refl W5.heap.size W5)))
     have jg := ak (HB.out.trans ((bu (Below.refl W5.heap.size W5)).mono HB.out.size))
     have HD := ak (Below.refl W5.drew.heap.size W5.drew)
     clear HX qD HB
     refine dV (n := 32) (S := fun w' => Below W5.drew.heap.size W5.drew w') (ds := []) #[false, false, false, false, false, false, false, false, false, false, false, false, false, false, false, false, false, false, false, false, false, false, false, false, false, false, false, false, false, false, false, false] (by kernel_rfl) rfl rfl (Below.refl _ _) (fun hHeld => ?_); refine cz vA.tab4 vA.bits4 (fun aa bV => ?_)
     refine pu 0 aa.out ?_
     refine tk 1 aa.out bV.out hHeld ?_ (hv := by intro w' bx; have x0 := (qJ.out.below bx).cell 0 _ rfl; go_simp; with_reducible rfl)
     refine pu 3 aa.out ?_
     refine tk 4 aa.out bV.out hHeld ?_ (hv := by intro w' bx; have x0 := (qJ.out.below bx).cell 0 _ rfl; go_simp; with_reducible rfl)
     refine on 2 aa.out (fun K hK => ?_)
     refine gs Tryz.func117 #[.int .u32 (n : Int)] (lx.calls _ _ _ HF.out) ?_
     rintro e V2 ⟨rfl, ao⟩
     refine ⟨_, rfl, ?_⟩
     replace HD := mv ao HD; clear ao
     refine kn hK HD.out (fun hHeld => ?_)
     clear hK K
     refine pu 5 aa.out ?_
     refine pu 6 aa.out ?_
     first | refine pu 7 aa.out ?_ | refine po 7 aa.out ?_
     first | refine tk 8 aa.out bV.out hHeld ?_ (hv := by intro w' bx; have x0 := (qJ.out.below bx).cell 1 _ rfl; go_simp; with_reducible rfl) | refine po 8 aa.out ?_
     first | refine pu 9 aa.out ?_ | refine po 9 aa.out ?_
     refine pu 10 aa.out ?_
     refine pu 11 aa.out ?_
     first | refine pu 12 aa.out ?_ | refine po 12 aa.out ?_
     first | refine tk 13 aa.out bV.out hHeld ?_ (hv := by intro w' bx; have x0 := (qJ.out.below bx).cell 1 _ rfl; go_simp; with_reducible rfl) | refine po 13 aa.out ?_
     first | refine pu 14 aa.out ?_ | refine po 14 aa.out ?_
     refine pu 15 aa.out ?_
     refine pu 16 aa.out ?_
     first | refine pu 17 aa.out ?_ | refine po 17 aa.out ?_
     first | refine pu 18 aa.out ?_ | refine po 18 aa.out ?_
     first | refine pu 19 aa.out ?_ | refine po 19 aa.out ?_
     first | refine pu 20 aa.out ?_ | refine po 20 aa.out ?_
     first | refine tk 21 aa.out bV.out hHeld ?_ (hv := by intro w' bx; have x0 := (qH.out.below bx).cell 0 _ rfl; go_simp; with_reducible rfl) | refine po 21 aa.out ?_
     first | refine pu 22 aa.out ?_ | refine po 22 aa.out ?_
     first | refine pu 23 aa.out ?_ | refine po 23 aa.out ?_
     first | refine pu 24 aa.out ?_ | refine po 24 aa.out ?_
     first | refine pu 25 aa.out ?_ | refine po 25 aa.out ?_
     first | refine tk 26 aa.out bV.out hHeld ?_ (hv := by intro w' bx; have x0 := ((jg.out.trans (bx.mono jg.out.size)).cell (World.block_lt_of_cell? w _ YP.out)).trans YP.out; go_simp; with_reducible rfl) | refine po 26 aa.out ?_
     first | refine pu 27 aa.out ?_ | refine po 27 aa.out ?_
     first | refine tk 28 aa.out bV.out hHeld ?_ (hv := by intro w' bx; have x0 := (qJ.out.below bx).cell 0 _ rfl; go_simp; with_reducible rfl) | refine po 28 aa.out ?_
     first | refine pu 29 aa.out ?_ | refine po 29 aa.out ?_
     first | refine pu 30 aa.out ?_ | refine po 30 aa.out ?_
     refine pu 31 aa.out ?_
     refine dn aa.out ?_
     go_wp2
     go_roundw
     case rel => exact ⟨j + 1, by omega, by go_num, ⟨fun q hq => by
      by_cases hqj : q < j
      ·exact HOK.out q hqj
      ·obtain rfl : q = j := by omega
       exact HBD.out⟩, ⟨qH.out.below HD.out⟩, ⟨jg.out.trans (HD.out.mono jg.out.size)⟩⟩
     case measure => simp [intOf]; omega
  ·obtain rfl : j = l.length := by omega
   have hjb : decide ((l.length : Int) < (l.length : Int)) = false := by simp
   have p1 : ((l.length : Int) < (l.length : Int)) = False := eq_false (by omega)
   have j7 := HX.out.cell 0 _ rfl
   have HRI := ak (JL (l := l) HOK.out)
   go_wp2
   go_ret
   have e : decide ((l.length : Int) ≤ 4096) = kI l := by rw [HRI.out, decide_eq_decide]; omega
   exact ⟨by rw [← e]; rfl, HB.out⟩
end
end Go.Proofs.YtndddnglapkplaaGreatDoor.V
