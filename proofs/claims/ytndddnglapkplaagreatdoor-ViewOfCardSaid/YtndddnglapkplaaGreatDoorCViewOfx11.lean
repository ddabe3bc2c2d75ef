/- The law ViewOf for every input: texts of ours, put together (part 12 of 17). No further condition. -/
import Derived.Test.YtndddnglapkplaaGreatDoorCViewOfx2
import Derived.Test.YtndddnglapkplaaGreatDoorCViewOfx5
import Derived.Test.YtndddnglapkplaaGreatDoorCViewOfx3
import Derived.Test.YtndddnglapkplaaGreatDoorCViewOfx8
import Derived.Test.YtndddnglapkplaaGreatDoorCViewOfx10
import Derived.Test.YtndddnglapkplaaGreatDoorCViewOfx9
import Derived.Outline
import Derived.Test.YtndddnglapkplaaGreatDoorCViewOfw0
import Derived.Test.YtndddnglapkplaaGreatDoorCViewOfx7
set_option linter.unusedVariables false
set_option linter.unusedSimpArgs false
set_option linter.unusedSectionVars false
open Go.RowKit Go.Proofs.YtndddnglapkplaaGreatDoorW.PrintWords Go.Proofs.YtndddnglapkplaaGreatDoorW.PrintLast Go.Proofs.YtndddnglapkplaaGreatDoorW.PrintMore Go.Proofs.YtndddnglapkplaaGreatDoor.Z
namespace Go.Proofs.YtndddnglapkplaaGreatDoor.V
section
attribute [local go_sem] bq bn bI bH aW aV bp bj
def bX.l0 : Nat → List (S144) → List (S144) → Int → Int → Option (Bool)
 | 0, _, _, _, _ => none
 | k + 1, x0, x5, x6, x7 => if x7 < x6 then (if 0 ≤ x7 then (if x7 < (x5.length : Int) then (if (Int.tmod ((aD x5 x7).f0) 64) = 0 then (if ((aD x5 x7).f1) < 1 then (some false) else (if ((aD x5 x7).f1) > 65535 then (some false) else (if x7 > 0 then (if 0 ≤ (wrap64 (x7 - 1)) then (if (wrap64 (x7 - 1)) < (x0.length : Int) then (if ((aD x5 x7).f0) ≤ ((aD x0 (wrap64 (x7 - 1))).f0) then (some false) else (bX.l0 k x0 x5 x6 (wrap64 (x7 + 1)))) else (none)) else (none)) else (bX.l0 k x0 x5 x6 (wrap64 (x7 + 1)))))) else (some false)) else (none)) else (none)) else (some (decide ((x0.length : Int) ≤ 4096)))
def bX.f (k : Nat) (l0 : List (S144)) : Option (Bool) := bX.l0 k l0 l0 (l0.length : Int) 0
set_option maxHeartbeats 8000000 in
set_option maxRecDepth 100000 in
theorem bX.calls (k : Nat) (A0 : Option Addr) (c0 : Nat) (l0 : List (S144)) (r : Bool) (w : World) (nS : Kd.C ja w A0 l0.length l0) (en : l0.length ≤ c0) (h : bX.f k l0 = some r) :
  Calls Tryz.prog 70 #[.slice A0 l0.length c0] w fun e w' => e = .returned (.bool r) ∧ Below w.heap.size w w' := by
 have J0 := Tryz.underlying144
 have lJ := ak nS
 have qJ := ak en
 clear nS en
 have HB := ak (Below.refl w.heap.size w)
 have H : (bX.l0 k l0 l0 (l0.length : Int) 0) = some r := h
 clear h
 have H' := ak H; clear H
 go_enter Tryz.func70, Tryz.ntmps70
 go_wp2
 repeat (go_quiet (fail); try go_wp2)
 go_loopg [7] k (fun kq v7 w' => ∃ (aR : Int), v7 = .int .i64 aR ∧ Aside0 (bX.l0 kq l0 l0 (l0.length : Int) aR = some r) ∧ Aside0 (kq ≤ k) ∧ Aside0 (Below w.heap.size w w'))
 case atStart => exact ⟨(0), rf, H', ⟨Nat.le_refl _⟩, ⟨bl⟩⟩
 case round =>
  clear H'
  obtain ⟨aR, rfl, HA, ee, HB⟩ := hrel
  cases gk with
  | zero => exact absurd HA.out (by simp [bX.l0])
  | succ k1 =>
   have H := HA.out
   clear HA
   simp only [bX.l0] at H
   by_cases c2 : aR < (l0.length : Int)
   ·rw [if_pos c2] at H
    have ig := decide_eq_true c2
    clear c2
    by_cases c3 : 0 ≤ aR
    ·rw [if_pos c3] at H
     have gq := decide_eq_true c3
     clear c3
     by_cases c4 : aR < (l0.length : Int)
     ·rw [if_pos c4] at H
      have eQ := decide_eq_true c4
      clear c4
      by_cases c5 : (Int.tmod ((aD l0 aR).f0) 64) = 0
      ·rw [if_pos c5] at H
       have nF : ((Int.tmod ((aD l0 aR).f0) 64) == 0) = true := beq_iff_eq.mpr c5
       have xt : ((Int.tmod ((aD l0 aR).f0) 64) != 0) = false := bne_eq_false_iff_eq.mpr c5
       clear c5
       by_cases c6 : ((aD l0 aR).f1) < 1
       ·rw [if_pos c6] at H
        have jd := decide_eq_true c6
        clear c6
        obtain rfl := Option.some.inj H
        have fO : 0 ≤ (aR : Int) := od
        have fM : aR < (l0.length : Int) := od
        obtain ⟨eW, ny, e9, e8⟩ := hU lJ.out aR fO fM
        cases ny
        replace e9 := hc HB e9
        replace e8 := hc HB e8
        replace fO := eq_true fO
        replace fM := eq_true fM
        go_wp2_with (first | ((with_reducible refine af (N := 4) rfl ?_); refine bE (N := 4) (cs := #[.int .u32 0, .int .i64 0]) (t := 144) ?_; intro aH hg w7 hbox hb; have aQ := ak (hbox); have dO := ak (gl hg : w.heap.size ≤ aH); have ia := ak (gl hg : w.heap.size ≤ aH); replace HB := bs hb; clear hb hbox hg; have qq := cf aQ 0; have qp := cf aQ 1; have qo := J aQ.out 0; have qn := J aQ.out 1))
        repeat (go_quiet (first | ((with_reducible refine af (N := 4) rfl ?_); refine bE (N := 4) (cs := #[.int .u32 0, .int .i64 0]) (t := 144) ?_; intro aH hg w7 hbox hb; have aQ := ak (hbox); have dO := ak (gl hg : w.heap.size ≤ aH); have ia := ak (gl hg : w.heap.size ≤ aH); replace HB := bs hb; clear hb hbox hg; have qq := cf aQ 0; have qp := cf aQ 1; have qo := J aQ.out 0; have qn := J aQ.out 1)); try go_wp2_with (first | ((with_reducible refine af (N := 4) rfl ?_); refine bE (N := 4) (cs := #[.int .u32 0, .int .i64 0]) (t := 144) ?_; intro aH hg w7 hbox hb; have aQ := ak (hbox); have dO := ak (gl hg : w.heap.size ≤ aH); have ia := ak (gl hg : w.heap.size ≤ aH); replace HB := bs hb; clear hb hbox hg; have qq := cf aQ 0; have qp := cf aQ 1; have qo := J aQ.out 0; have qn := J aQ.out 1)))
        go_ret
        exact ⟨rg, bl⟩
       ·rw [if_neg c6] at H
        have jd := decide_eq_false c6
        clear c6
        by_cases c9 : ((aD l0 aR).f1) > 65535
        ·rw [if_pos c9] at H
         have xq := decide_eq_true c9
         clear c9
         obtain rfl := Option.some.inj H
         have fO : 0 ≤ (aR : Int) := od
         have fM : aR < (l0.length : Int) := od
         obtain ⟨eW, ny, e9, e8⟩ := hU lJ.out aR fO fM
         cases ny
         replace e9 := hc HB e9
         replace e8 := hc HB e8
         replace fO := eq_true fO
         replace fM := eq_true fM
         go_wp2_with (first | ((with_reducible refine af (N := 4) rfl ?_); refine bE (N := 4) (cs := #[.int .u32 0, .int .i64 0]) (t := 144) ?_; intro aH hg uB hbox hb; have aQ := ak (hbox); have dO := ak (gl hg : w.heap.size ≤ aH); have ia := ak (gl hg : w.heap.size ≤ aH); replace HB := bs hb; clear hb hbox hg; have py := cf aQ 0; have px := cf aQ 1; have pw := J aQ.out 0; have pt := J aQ.out 1))
         repeat (go_quiet (first | ((with_reducible refine af (N := 4) rfl ?_); refine bE (N := 4) (cs := #[.int .u32 0, .int .i64 0]) (t := 144) ?_; intro aH hg uB hbox hb; have aQ := ak (hbox); have dO := ak (gl hg : w.heap.size ≤ aH); have ia := ak (gl hg : w.heap.size ≤ aH); replace HB := bs hb; clear hb hbox hg; have py := cf aQ 0; have px := cf aQ 1; have pw := J aQ.out 0; have pt := J aQ.out 1)); try go_wp2_with (first | ((with_reducible refine af (N := 4) rfl ?_); refine bE (N := 4) (cs := #[.int .u32 0, .int .i64 0]) (t := 144) ?_; intro aH hg uB hbox hb; have aQ := ak (hbox); have dO := ak (gl hg : w.heap.size ≤ aH); have ia := ak (gl hg : w.heap.size ≤ aH); replace HB := bs hb; clear hb hbox hg; have py := cf aQ 0; have px := cf aQ 1; have pw := J aQ.out 0; have pt := J aQ.out 1)))
         go_ret
         exact ⟨rg, bl⟩
        ·rw [if_neg c9] at H
         have xq := decide_eq_false c9
         clear c9
         by_cases dB : aR > 0
         ·rw [if_pos dB] at H
          have u9 := decide_eq_true dB
          clear dB
          obtain ⟨jv, En⟩ : ∃ j_ : Int, (wrap64 (aR - 1)) = j_ := ⟨_, rfl⟩
          replace H : (if 0 ≤ (jv) then (if (jv) < (l0.length : Int) then (if ((aD l0 aR).f0) ≤ ((aD l0 (jv)).f0) then (some false) else (bX.l0 k1 l0 l0 (l0.length : Int) (wrap64 (aR + 1)))) else (none)) else (none)) = some r := by first | (rw [En] at H; exact H) | (simp only [En] at H ⊢; exact H)
          have aC8 : (IntKind.i64.wrap (aR - 1)) = jv := (gO _).trans En
          by_cases hG : 0 ≤ (jv)
          ·rw [if_pos hG] at H
           have zo := decide_eq_true hG
           clear hG
           by_cases u7 : (jv) < (l0.length : Int)
           ·rw [if_pos u7] at H
            have XM := decide_eq_true u7
            clear u7
            by_cases qG : ((aD l0 aR).f0) ≤ ((aD l0 (jv)).f0)
            ·rw [if_pos qG] at H
             have Eo := decide_eq_true qG
             clear qG
             obtain rfl := Option.some.inj H
             have fO : 0 ≤ (aR : Int) := od
             have fM : aR < (l0.length : Int) := od
             obtain ⟨eW, ny, e9, e8⟩ := hU lJ.out aR fO fM
             cases ny
             replace e9 := hc HB e9
             replace e8 := hc HB e8
             replace fO := eq_true fO
             replace fM := eq_true fM
             go_wp2_with (first | ((with_reducible refine af (N := 4) rfl ?_); refine bE (N := 4) (cs := #[.int .u32 0, .int .i64 0]) (t := 144) ?_; intro aH hg xW hbox hb; have aQ := ak (hbox); have dO := ak (gl hg : w.heap.size ≤ aH); have ia := ak (gl hg : w.heap.size ≤ aH); replace HB := bs hb; clear hb hbox hg; have CC := cf aQ 0; have CB := cf aQ 1; have Cr := J aQ.out 0; have Cq := J aQ.out 1; have fN : 0 ≤ ((jv) : Int) := od; have fL : (jv) < (l0.length : Int) := od; obtain ⟨lI, nx, aZ, bD⟩ := hU lJ.out (jv) fN fL; obtain rfl : eW = lI := (by injection nx); have bG : eW.block ≠ aH := Nat.ne_of_lt (Nat.lt_of_lt_of_le (by have := World.block_lt_of_cell? _ _ aZ; first | rwa [aX] at this | exact this) dO.out); have bF : eW.block ≠ aH := Nat.ne_of_lt (Nat.lt_of_lt_of_le (by have := World.block_lt_of_cell? _ _ aZ; first | rwa [aX] at this | exact this) dO.out); replace aZ := hc HB aZ; replace bD := hc HB bD; replace aZ := (cell_far (p := ⟨aH, 0, none⟩) (by first | (rw [aX]; exact bG) | (show (Addr.add _ _).block ≠ _; rw [aX]; exact bG) | exact bG) (.int .u32 ((aD l0 aR).f0))).trans aZ; replace bD := (cell_far (p := ⟨aH, 0, none⟩) (by first | (rw [aX]; exact bG) | (show (Addr.add _ _).block ≠ _; rw [aX]; exact bG) | exact bG) (.int .u32 ((aD l0 aR).f0))).trans bD; replace aZ := (cell_far (p := ⟨aH, 1, none⟩) (by first | (rw [aX]; exact bF) | (show (Addr.add _ _).block ≠ _; rw [aX]; exact bF) | exact bF) (.int .i64 ((aD l0 aR).f1))).trans aZ; replace bD := (cell_far (p := ⟨aH, 1, none⟩) (by first | (rw [aX]; exact bF) | (show (Addr.add _ _).block ≠ _; rw [aX]; exact bF) | exact bF) (.int .i64 ((aD l0 aR).f1))).trans bD; (try have rI := fun (n_ : Nat) => (show ((((xW.drewN n_).setCell ⟨aH, 0, none⟩ (.int .u32 ((aD l0 aR).f0))).setCell ⟨aH, 1, none⟩ (.int .i64 ((aD l0 aR).f1)))).cell? _ = some _ from aZ)); (try have rH := fun (n_ : Nat) => (show ((((xW.drewN n_).setCell ⟨aH, 0, none⟩ (.int .u32 ((aD l0 aR).f0))).setCell ⟨aH, 1, none⟩ (.int .i64 ((aD l0 aR).f1)))).cell? _ = some _ from bD)); clear bG; clear bF; replace fN := eq_true fN; replace fL := eq_true fL))
             repeat (go_quiet (first | ((with_reducible refine af (N := 4) rfl ?_); refine bE (N := 4) (cs := #[.int .u32 0, .int .i64 0]) (t := 144) ?_; intro aH hg xW hbox hb; have aQ := ak (hbox); have dO := ak (gl hg : w.heap.size ≤ aH); have ia := ak (gl hg : w.heap.size ≤ aH); replace HB := bs hb; clear hb hbox hg; have CC := cf aQ 0; have CB := cf aQ 1; have Cr := J aQ.out 0; have Cq := J aQ.out 1; have fN : 0 ≤ ((jv) : Int) := od; have fL : (jv) < (l0.length : Int) := od; obtain ⟨lI, nx, aZ, bD⟩ := hU lJ.out (jv) fN fL; obtain rfl : eW = lI := (by injection nx); have bG : eW.block ≠ aH := Nat.ne_of_lt (Nat.lt_of_lt_of_le (by have := World.block_lt_of_cell? _ _ aZ; first | rwa [aX] at this | exact this) dO.out); have bF : eW.block ≠ aH := Nat.ne_of_lt (Nat.lt_of_lt_of_le (by have := World.block_lt_of_cell? _ _ aZ; first | rwa [aX] at this | exact this) dO.out); replace aZ := hc HB aZ; replace bD := hc HB bD; replace aZ := (cell_far (p := ⟨aH, 0, none⟩) (by first | (rw [aX]; exact bG) | (show (Addr.add _ _).block ≠ _; rw [aX]; exact bG) | exact bG) (.int .u32 ((aD l0 aR).f0))).trans aZ; replace bD := (cell_far (p := ⟨aH, 0, none⟩) (by first | (rw [aX]; exact bG) | (show (Addr.add _ _).block ≠ _; rw [aX]; exact bG) | exact bG) (.int .u32 ((aD l0 aR).f0))).trans bD; replace aZ := (cell_far (p := ⟨aH, 1, none⟩) (by first | (rw [aX]; exact bF) | (show (Addr.add _ _).block ≠ _; rw [aX]; exact bF) | exact bF) (.int .i64 ((aD l0 aR).f1))).trans aZ; replace bD := (cell_far (p := ⟨aH, 1, none⟩) (by first | (rw [aX]; exact bF) | (show (Addr.add _ _).block ≠ _; rw [aX]; exact bF) | exact bF) (.int .i64 ((aD l0 aR).f1))).trans bD; (try have rI := fun (n_ : Nat) => (show ((((xW.drewN n_).setCell ⟨aH, 0, none⟩ (.int .u32 ((aD l0 aR).f0))).setCell ⟨aH, 1, none⟩ (.int .i64 ((aD l0 aR).f1)))).cell? _ = some _ from aZ)); (try have rH := fun (n_ : Nat) => (show ((((xW.drewN n_).setCell ⟨aH, 0, none⟩ (.int .u32 ((aD l0 aR).f0))).setCell ⟨aH, 1, none⟩ (.int .i64 ((aD l0 aR).f1)))).cell? _ = some _ from bD)); clear bG; clear bF; replace fN := eq_true fN; replace fL := eq_true fL)); try go_wp2_with (first | ((with_reducible refine af (N := 4) rfl ?_); refine bE (N := 4) (cs := #[.int .u32 0, .int .i64 0]) (t := 144) ?_; intro aH hg xW hbox hb; have aQ := ak (hbox); have dO := ak (gl hg : w.heap.size ≤ aH); have ia := ak (gl hg : w.heap.size ≤ aH); replace HB := bs hb; clear hb hbox hg; have CC := cf aQ 0; have CB := cf aQ 1; have Cr := J aQ.out 0; have Cq := J aQ.out 1; have fN : 0 ≤ ((jv) : Int) := od; have fL : (jv) < (l0.length : Int) := od; obtain ⟨lI, nx, aZ, bD⟩ := hU lJ.out (jv) fN fL; obtain rfl : eW = lI := (by injection nx); have bG : eW.block ≠ aH := Nat.ne_of_lt (Nat.lt_of_lt_of_le (by have := World.block_lt_of_cell? _ _ aZ; first | rwa [aX] at this | exact this) dO.out); have bF : eW.block ≠ aH := Nat.ne_of_lt (Nat.lt_of_lt_of_le (by have := World.block_lt_of_cell? _ _ aZ; first | rwa [aX] at this | exact this) dO.out); replace aZ := hc HB aZ; replace bD := hc HB bD; replace aZ := (cell_far (p := ⟨aH, 0, none⟩) (by first | (rw [aX]; exact bG) | (show (Addr.add _ _).block ≠ _; rw [aX]; exact bG) | exact bG) (.int .u32 ((aD l0 aR).f0))).trans aZ; replace bD := (cell_far (p := ⟨aH, 0, none⟩) (by first | (rw [aX]; exact bG) | (show (Addr.add _ _).block ≠ _; rw [aX]; exact bG) | exact bG) (.int .u32 ((aD l0 aR).f0))).trans bD; replace aZ := (cell_far (p := ⟨aH, 1, none⟩) (by first | (rw [aX]; exact bF) | (show (Addr.add _ _).block ≠ _; rw [aX]; exact bF) | exact bF) (.int .i64 ((aD l0 aR).f1))).trans aZ; replace bD := (cell_far (p := ⟨aH, 1, none⟩) (by first | (rw [aX]; exact bF) | (show (Addr.add _ _).block ≠ _; rw [aX]; exact bF) | exact bF) (.int .i64 ((aD l0 aR).f1))).trans bD; (try have rI := fun (n_ : Nat) => (show ((((xW.drewN n_).setCell ⟨aH, 0, none⟩ (.int .u32 ((aD l0 aR).f0))).setCell ⟨aH, 1, none⟩ (.int .i64 ((aD l0 aR).f1)))).cell? _ = some _ from aZ)); (try have rH := fun (n_ : Nat) => (show ((((xW.drewN n_).setCell ⟨aH, 0, none⟩ (.int .u32 ((aD l0 aR).f0))).setCell ⟨aH, 1, none⟩ (.int .i64 ((aD l0 aR).f1)))).cell? _ = some _ from bD)); clear bG; clear bF; replace fN := eq_true fN; replace fL := eq_true fL)))
             go_ret
             exact ⟨by first | rfl | (simp [db, da] <;> rfl) | (simp only [← En]; first | rfl | (simp [db, da] <;> rfl)) | (simp [*, db, da] <;> rfl), bl⟩
            ·rw [if_neg qG] at H
             have Eo := decide_eq_false qG
             clear qG
             have H' := ak H; clear H
             have fO : 0 ≤ (aR : Int) := od
             have fM : aR < (l0.length : Int) := od
             obtain ⟨eW, ny, e9, e8⟩ := hU lJ.out aR fO fM
             cases ny
             replace e9 := hc HB e9
             replace e8 := hc HB e8
             replace fO := eq_true fO
             replace fM := eq_true fM
             go_wp2_with (first | ((with_reducible refine af (N := 4) rfl ?_); refine bE (N := 4) (cs := #[.int .u32 0, .int .i64 0]) (t := 144) ?_; intro aH hg rn hbox hb; have aQ := ak (hbox); have dO := ak (gl hg : w.heap.size ≤ aH); have ia := ak (gl hg : w.heap.size ≤ aH); replace HB := bs hb; clear hb hbox hg; have CA := cf aQ 0; have Cz := cf aQ 1; have Cp := J aQ.out 0; have Co := J aQ.out 1; have fN : 0 ≤ ((jv) : Int) := od; have fL : (jv) < (l0.length : Int) := od; obtain ⟨lI, nx, aZ, bD⟩ := hU lJ.out (jv) fN fL; obtain rfl : eW = lI := (by injection nx); have bG : eW.block ≠ aH := Nat.ne_of_lt (Nat.lt_of_lt_of_le (by have := World.block_lt_of_cell? _ _ aZ; first | rwa [aX] at this | exact this) dO.out); have bF : eW.block ≠ aH := Nat.ne_of_lt (Nat.lt_of_lt_of_le (by have := World.block_lt_of_cell? _ _ aZ; first | rwa [aX] at this | exact this) dO.out); replace aZ := hc HB aZ; replace bD := hc HB bD; replace aZ := (cell_far (p := ⟨aH, 0, none⟩) (by first | (rw [aX]; exact bG) | (show (Addr.add _ _).block ≠ _; rw [aX]; exact bG) | exact bG) (.int .u32 ((aD l0 aR).f0))).trans aZ; replace bD := (cell_far (p := ⟨aH, 0, none⟩) (by first | (rw [aX]; exact bG) | (show (Addr.add _ _).block ≠ _; rw [aX]; exact bG) | exact bG) (.int .u32 ((aD l0 aR).f0))).trans bD; replace aZ := (cell_far (p := ⟨aH, 1, none⟩) (by first | (rw [aX]; exact bF) | (show (Addr.add _ _).block ≠ _; rw [aX]; exact bF) | exact bF) (.int .i64 ((aD l0 aR).f1))).trans aZ; replace bD := (cell_far (p := ⟨aH, 1, none⟩) (by first | (rw [aX]; exact bF) | (show (Addr.add _ _).block ≠ _; rw [aX]; exact bF) | exact bF) (.int .i64 ((aD l0 aR).f1))).trans bD; (try have rI := fun (n_ : Nat) => (show ((((rn.drewN n_).setCell ⟨aH, 0, none⟩ (.int .u32 ((aD l0 aR).f0))).setCell ⟨aH, 1, none⟩ (.int .i64 ((aD l0 aR).f1)))).cell? _ = some _ from aZ)); (try have rH := fun (n_ : Nat) => (show ((((rn.drewN n_).setCell ⟨aH, 0, none⟩ (.int .u32 ((aD l0 aR).f0))).setCell ⟨aH, 1, none⟩ (.int .i64 ((aD l0 aR).f1)))).cell? _ = some _ from bD)); clear bG; clear bF; replace fN := eq_true fN; replace fL := eq_true fL))
             repeat (go_quiet (first | ((with_reducible refine af (N := 4) rfl ?_); refine bE (N := 4) (cs := #[.int .u32 0, .int .i64 0]) (t := 144) ?_; intro aH hg rn hbox hb; have aQ := ak (hbox); have dO := ak (gl hg : w.heap.size ≤ aH); have ia := ak (gl hg : w.heap.size ≤ aH); replace HB := bs hb; clear hb hbox hg; have CA := cf aQ 0; have Cz := cf aQ 1; have Cp := J aQ.out 0; have Co := J aQ.out 1; have fN : 0 ≤ ((jv) : Int) := od; have fL : (jv) < (l0.length : Int) := od; obtain ⟨lI, nx, aZ, bD⟩ := hU lJ.out (jv) fN fL; obtain rfl : eW = lI := (by injection nx); have bG : eW.block ≠ aH := Nat.ne_of_lt (Nat.lt_of_lt_of_le (by have := World.block_lt_of_cell? _ _ aZ; first | rwa [aX] at this | exact this) dO.out); have bF : eW.block ≠ aH := Nat.ne_of_lt (Nat.lt_of_lt_of_le (by have := World.block_lt_of_cell? _ _ aZ; first | rwa [aX] at this | exact this) dO.out); replace aZ := hc HB aZ; replace bD := hc HB bD; replace aZ := (cell_far (p := ⟨aH, 0, none⟩) (by first | (rw [aX]; exact bG) | (show (Addr.add _ _).block ≠ _; rw [aX]; exact bG) | exact bG) (.int .u32 ((aD l0 aR).f0))).trans aZ; replace bD := (cell_far (p := ⟨aH, 0, none⟩) (by first | (rw [aX]; exact bG) | (show (Addr.add _ _).block ≠ _; rw [aX]; exact bG) | exact bG) (.int .u32 ((aD l0 aR).f0))).trans bD; replace aZ := (cell_far (p := ⟨aH, 1, none⟩) (by first | (rw [aX]; exact bF) | (show (Addr.add _ _).block ≠ _; rw [aX]; exact bF) | exact bF) (.int .i64 ((aD l0 aR).f1))).trans aZ; replace bD := (cell_far (p := ⟨aH, 1, none⟩) (by first | (rw [aX]; exact bF) | (show (Addr.add _ _).block ≠ _; rw [aX]; exact bF) | exact bF) (.int .i64 ((aD l0 aR).f1))).trans bD; (try have rI := fun (n_ : Nat) => (show ((((rn.drewN n_).setCell ⟨aH, 0, none⟩ (.int .u32 ((aD l0 aR).f0))).setCell ⟨aH, 1, none⟩ (.int .i64 ((aD l0 aR).f1)))).cell? _ = some _ from aZ)); (try have rH := fun (n_ : Nat) => (show ((((rn.drewN n_).setCell ⟨aH, 0, none⟩ (.int .u32 ((aD l0 aR).f0))).setCell ⟨aH, 1, none⟩ (.int .i64 ((aD l0 aR).f1)))).cell? _ = some _ from bD)); clear bG; clear bF; replace fN := eq_true fN; replace fL := eq_true fL)); try go_wp2_with (first | ((with_reducible refine af (N := 4) rfl ?_); refine bE (N := 4) (cs := #[.int .u32 0, .int .i64 0]) (t := 144) ?_; intro aH hg rn hbox hb; have aQ := ak (hbox); have dO := ak (gl hg : w.heap.size ≤ aH); have ia := ak (gl hg : w.heap.size ≤ aH); replace HB := bs hb; clear hb hbox hg; have CA := cf aQ 0; have Cz := cf aQ 1; have Cp := J aQ.out 0; have Co := J aQ.out 1; have fN : 0 ≤ ((jv) : Int) := od; have fL : (jv) < (l0.length : Int) := od; obtain ⟨lI, nx, aZ, bD⟩ := hU lJ.out (jv) fN fL; obtain rfl : eW = lI := (by injection nx); have bG : eW.block ≠ aH := Nat.ne_of_lt (Nat.lt_of_lt_of_le (by have := World.block_lt_of_cell? _ _ aZ; first | rwa [aX] at this | exact this) dO.out); have bF : eW.block ≠ aH := Nat.ne_of_lt (Nat.lt_of_lt_of_le (by have := World.block_lt_of_cell? _ _ aZ; first | rwa [aX] at this | exact this) dO.out); replace aZ := hc HB aZ; replace bD := hc HB bD; replace aZ := (cell_far (p := ⟨aH, 0, none⟩) (by first | (rw [aX]; exact bG) | (show (Addr.add _ _).block ≠ _; rw [aX]; exact bG) | exact bG) (.int .u32 ((aD l0 aR).f0))).trans aZ; replace bD := (cell_far (p := ⟨aH, 0, none⟩) (by first | (rw [aX]; exact bG) | (show (Addr.add _ _).block ≠ _; rw [aX]; exact bG) | exact bG) (.int .u32 ((aD l0 aR).f0))).trans bD; replace aZ := (cell_far (p := ⟨aH, 1, none⟩) (by first | (rw [aX]; exact bF) | (show (Addr.add _ _).block ≠ _; rw [aX]; exact bF) | exact bF) (.int .i64 ((aD l0 aR).f1))).trans aZ; replace bD := (cell_far (p := ⟨aH, 1, none⟩) (by first | (rw [aX]; exact bF) | (show (Addr.add _ _).block ≠ _; rw [aX]; exact bF) | exact bF) (.int .i64 ((aD l0 aR).f1))).trans bD; (try have rI := fun (n_ : Nat) => (show ((((rn.drewN n_).setCell ⟨aH, 0, none⟩ (.int .u32 ((aD l0 aR).f0))).setCell ⟨aH, 1, none⟩ (.int .i64 ((aD l0 aR).f1)))).cell? _ = some _ from aZ)); (try have rH := fun (n_ : Nat) => (show ((((rn.drewN n_).setCell ⟨aH, 0, none⟩ (.int .u32 ((aD l0 aR).f0))).setCell ⟨aH, 1, none⟩ (.int .i64 ((aD l0 aR).f1)))).cell? _ = some _ from bD)); clear bG; clear bF; replace fN := eq_true fN; replace fL := eq_true fL)))
             go_roundg k1
             case measure => have := ee.out; omega
             case rel => exact ⟨(wrap64 (aR + 1)), rf, H', ⟨by have := ee.out; omega⟩, ⟨bl⟩⟩
           ·rw [if_neg u7] at H
            exact absurd H (by simp)
          ·rw [if_neg hG] at H
           exact absurd H (by simp)
         ·rw [if_neg dB] at H
          have u9 := decide_eq_false dB
          clear dB
          have H' := ak H; clear H
          have fO : 0 ≤ (aR : Int) := od
          have fM : aR < (l0.length : Int) := od
          obtain ⟨eW, ny, e9, e8⟩ := hU lJ.out aR fO fM
          cases ny
          replace e9 := hc HB e9
          replace e8 := hc HB e8
          replace fO := eq_true fO
          replace fM := eq_true fM
          go_wp2_with (first | ((with_reducible refine af (N := 4) rfl ?_); refine bE (N := 4) (cs := #[.int .u32 0, .int .i64 0]) (t := 144) ?_; intro aH hg xV hbox hb; have aQ := ak (hbox); have dO := ak (gl hg : w.heap.size ≤ aH); have ia := ak (gl hg : w.heap.size ≤ aH); replace HB := bs hb; clear hb hbox hg; have Cy := cf aQ 0; have Cx := cf aQ 1; have Cm := J aQ.out 0; have Cl := J aQ.out 1))
          repeat (go_quiet (first | ((with_reducible refine af (N := 4) rfl ?_); refine bE (N := 4) (cs := #[.int .u32 0, .int .i64 0]) (t := 144) ?_; intro aH hg xV hbox hb; have aQ := ak (hbox); have dO := ak (gl hg : w.heap.size ≤ aH); have ia := ak (gl hg : w.heap.size ≤ aH); replace HB := bs hb; clear hb hbox hg; have Cy := cf aQ 0; have Cx := cf aQ 1; have Cm := J aQ.out 0; have Cl := J aQ.out 1)); try go_wp2_with (first | ((with_reducible refine af (N := 4) rfl ?_); refine bE (N := 4) (cs := #[.int .u32 0, .int .i64 0]) (t := 144) ?_; intro aH hg xV hbox hb; have aQ := ak (hbox); have dO := ak (gl hg : w.heap.size ≤ aH); have ia := ak (gl hg : w.heap.size ≤ aH); replace HB := bs hb; clear hb hbox hg; have Cy := cf aQ 0; have Cx := cf aQ 1; have Cm := J aQ.out 0; have Cl := J aQ.out 1)))
          go_roundg k1
          case measure => have := ee.out; omega
          case rel => exact ⟨(wrap64 (aR + 1)), rf, H', ⟨by have := ee.out; omega⟩, ⟨bl⟩⟩
      ·rw [if_neg c5] at H
       have nF : ((Int.tmod ((aD l0 aR).f0) 64) == 0) = false := beq_eq_false_iff_ne.mpr c5
       have xt : ((Int.tmod ((aD l0 aR).f0) 64) != 0) = true := bne_iff_ne.mpr c5
       obtain rfl := Option.some.inj H
       have fO : 0 ≤ (aR : Int) := od
       have fM : aR < (l0.length : Int) := od
       obtain ⟨eW, ny, e9, e8⟩ := hU lJ.out aR fO fM
       cases ny
       replace e9 := hc HB e9
       replace e8 := hc HB e8
       replace fO := eq_true fO
       replace fM := eq_true fM
       go_wp2_with (first | ((with_reducible refine af (N := 4) rfl ?_); refine bE (N := 4) (cs := #[.int .u32 0, .int .i64 0]) (t := 144) ?_; intro aH hg S8 hbox hb; have aQ := ak (hbox); have dO := ak (gl hg : w.heap.size ≤ aH); have ia := ak (gl hg : w.heap.size ≤ aH); replace HB := bs hb; clear hb hbox hg; have zf := cf aQ 0; have ze := cf aQ 1; have zd := J aQ.out 0; have zb := J aQ.out 1))
       repeat (go_quiet (first | ((with_reducible refine af (N := 4) rfl ?_); refine bE (N := 4) (cs := #[.int .u32 0, .int .i64 0]) (t := 144) ?_; intro aH hg S8 hbox hb; have aQ := ak (hbox); have dO := ak (gl hg : w.heap.size ≤ aH); have ia := ak (gl hg : w.heap.size ≤ aH); replace HB := bs hb; clear hb hbox hg; have zf := cf aQ 0; have ze := cf aQ 1; have zd := J aQ.out 0; have zb := J aQ.out 1)); try go_wp2_with (first | ((with_reducible refine af (N := 4) rfl ?_); refine bE (N := 4) (cs := #[.int .u32 0, .int .i64 0]) (t := 144) ?_; intro aH hg S8 hbox hb; have aQ := ak (hbox); have dO := ak (gl hg : w.heap.size ≤ aH); have ia := ak (gl hg : w.heap.size ≤ aH); replace HB := bs hb; clear hb hbox hg; have zf := cf aQ 0; have ze := cf aQ 1; have zd := J aQ.out 0; have zb := J aQ.out 1)))
       go_ret
       exact ⟨rg, bl⟩
     ·rw [if_neg c4] at H
      exact absurd H (by simp)
    ·rw [if_neg c3] at H
     exact absurd H (by simp)
   ·rw [if_neg c2] at H
    have ig := decide_eq_false c2
    clear c2
    obtain rfl := Option.some.inj H
    go_wp2
    repeat (go_quiet (fail); try go_wp2)
    go_ret
    exact ⟨rg, bl⟩
end
section
attribute [local go_sem] bq bn bI bH aW aV bp bj
def bw.l0 : Nat → ByteArray → List (S144) → Int → Int → Option (ByteArray)
 | 0, _, _, _, _ => none
 | k + 1, x3, xT, xA, AF => if AF < xA then (if 0 ≤ AF then (if AF < (xT.length : Int) then ((av.f k (IntKind.u64.wrap ((aD xT AF).f0)) 4).bind fun iF => (if x3.size + (strOfNums iF).size ≤ 9223372036854775807 then ((av.f k (IntKind.u64.wrap ((aD xT AF).f1)) 2).bind fun jz => (if (x3 ++ (strOfNums iF)).size + (strOfNums jz).size ≤ 9223372036854775807 then (bw.l0 k ((x3 ++ (strOfNums iF)) ++ (strOfNums jz)) xT xA (wrap64 (AF + 1))) else (none))) else (none))) else (none)) else (none)) else (some x3)
def bw.f (k : Nat) (l0 : List (S144)) : Option (ByteArray) := (av.f k (IntKind.u64.wrap ((l0.length : Int))) 2).bind fun mY => (if 1 + (strOfNums mY).size ≤ 9223372036854775807 then (bw.l0 k ((⟨#[72]⟩ : ByteArray) ++ (strOfNums mY)) l0 (l0.length : Int) 0) else (none))
def bw.T5 : Bool × List (List Nat × List Nat) := (true, [([], []), ([], []), ([1], [1]), ([2], [2]), ([3], [3]), ([4], [4]), ([0, 5], [0, 5]), ([], []), ([7], [7]), ([8], [8]), ([9, 4], [9]), ([10], [10]), ([6, 11], [6, 11]), ([12, 10, 0, 1, 2, 3, 4, 5, 6, 7, 8, 9, 10, 11, 12], [0, 12])])
def bw.B5 : List Nat := [0, 0, 2, 6, 14, 30, 63, 0, 128, 384, 926, 1950, 4095, 8191]
theorem bw.tab5 : dA .any (opsOf Tryz.f71 5) = bw.T5 := by kernel_rfl
theorem bw.bits5 : dy bw.T5.2 bw.B5 = true := by kernel_rfl
set_option maxHeartbeats 8000000 in
set_option maxRecDepth 100000 in
theorem bw.calls (k : Nat) (A0 : Option Addr) (c0 : Nat) (l0 : List (S144)) (r : ByteArray) (w : World) (nS : Kd.C ja w A0 l0.length l0) (en : l0.length ≤ c0) (h : bw.f k l0 = some r) :
  Calls Tryz.prog 71 #[.slice A0 l0.length c0] w fun e w' => e = .returned (.string r) ∧ Below w.heap.size w w' := by
 have J0 := Tryz.underlying144
 have lJ := ak nS
 have qJ := ak en
 clear nS en
 have HB := ak (Below.refl w.heap.size w)
 have H : ((av.f k (IntKind.u64.wrap ((l0.length : Int))) 2).bind fun mY => (if 1 + (strOfNums mY).size ≤ 9223372036854775807 then (bw.l0 k ((⟨#[72]⟩ : ByteArray) ++ (strOfNums mY)) l0 (l0.length : Int) 0) else (none))) = some r := h
 clear h
 replace H := Option.bind_eq_some_iff.mp H
 obtain ⟨mY, eS, H⟩ := H
 replace H : (if 1 + (strOfNums mY).size ≤ 9223372036854775807 then (bw.l0 k ((⟨#[72]⟩ : ByteArray) ++ (strOfNums mY)) l0 (l0.length : Int) 0) else (none)) = some r := H
 have A2 := ak eS
 clear eS
 by_cases c3 : 1 + (strOfNums mY).size ≤ 9223372036854775807
 ·rw [if_pos c3] at H
  have gq := eq_true c3
  have yE := decide_eq_true c3
  try have Kg := eq_false (Nat.not_lt.2 c3)
  have H' := ak H; clear H
  go_enter Tryz.func71, Tryz.ntmps71
  go_wp2_with (first | ((with_reducible refine au (f := 63) rfl ?_); refine gC (some 9) Tryz.func63 #[.int .u64 (IntKind.u64.wrap ((l0.length : Int))), .int .i64 2] ?_; (with_reducible refine (av.calls k (IntKind.u64.wrap ((l0.length : Int))) 2 mY _ A2.out).mono ?_); rintro e w4 ⟨aC5, rfl, sH, hb⟩; refine ⟨_, rfl, ?_⟩; have SO := ak (Kd.R_lower sH (fj bl)); replace HB := bs hb; (try clear hb); (try clear aU); (try clear hk); (try clear hi); (try clear sH); have Uw := di (P := Tryz.prog) Tryz.underlying61 Tryz.underlying5 Tryz.underlying9 (Kd.own_of_R SO.out)))
  go_loopg [3, 14] k (fun kq v3 X6 w' => ∃ (bK : ByteArray) (eh : Int), v3 = .string bK ∧ X6 = .int .i64 eh ∧ Aside0 (bw.l0 kq bK l0 (l0.length : Int) eh = some r) ∧ Aside0 (kq ≤ k) ∧ Aside0 (Below w.heap.size w w'))
  case atStart => exact ⟨((⟨#[72]⟩ : ByteArray) ++ (strOfNums mY)), (0), rf, rf, H', ⟨Nat.le_refl _⟩, ⟨bl⟩⟩
  case round =>
   clear H'
   obtain ⟨bK, eh, rfl, rfl, HA, ee, HB⟩ := hrel
   cases gk with
   | zero => exact absurd HA.out (by simp [bw.l0])
   | succ k1 =>
    have H := HA.out
    clear HA
    simp only [bw.l0] at H
    by_cases c6 : eh < (l0.length : Int)
    ·rw [if_pos c6] at H
     have jd := decide_eq_true c6
     clear c6
     by_cases c7 : 0 ≤ eh
     ·rw [if_pos c7] at H
      have qV := decide_eq_true c7
      clear c7
      by_cases c8 : eh < (l0.length : Int)
      ·rw [if_pos c8] at H
       have qU := decide_eq_true c8
       clear c8
       replace H := Option.bind_eq_some_iff.mp H
       obtain ⟨iF, Nf, H⟩ := H
       replace H : (if bK.size + (strOfNums iF).size ≤ 9223372036854775807 then ((av.f k1 (IntKind.u64.wrap ((aD l0 eh).f1)) 2).bind fun jz => (if (bK ++ (strOfNums iF)).size + (strOfNums jz).size ≤ 9223372036854775807 then (bw.l0 k1 ((bK ++ (strOfNums iF)) ++ (strOfNums jz)) l0 (l0.length : Int) (wrap64 (eh + 1))) else (none))) else (none)) = some r := H
       have A9 := ak Nf
       clear Nf
       by_cases c10 : bK.size + (strOfNums iF).size ≤ 9223372036854775807
       ·rw [if_pos c10] at H
        have zp := eq_true c10
        have Qn := decide_eq_true c10
        try have aP7 := eq_false (Nat.not_lt.2 c10)
        replace H := Option.bind_eq_some_iff.mp H
        obtain ⟨jz, G0, H⟩ := H
        replace H : (if (bK ++ (strOfNums iF)).size + (strOfNums jz).size ≤ 9223372036854775807 then (bw.l0 k1 ((bK ++ (strOfNums iF)) ++ (strOfNums jz)) l0 (l0.length : Int) (wrap64 (eh + 1))) else (none)) = some r := H
        have QH := ak G0
        clear G0
        by_cases dB : (bK ++ (strOfNums iF)).size + (strOfNums jz).size ≤ 9223372036854775807
        ·rw [if_pos dB] at H
         have u9 := eq_true dB
         have Kk := decide_eq_true dB
         try have aP5 := eq_false (Nat.not_lt.2 dB)
         try have XP : ¬ 9223372036854775807 < bK.size + (strOfNums iF).size + (strOfNums jz).size := by have h_ := dB; simp only [ByteArray.size_append] at h_; exact Nat.not_lt.2 h_
         try have aP4 := eq_false XP
         have H' := ak H; clear H
         have EV : 0 ≤ (eh : Int) := od
         have EM : eh < (l0.length : Int) := od
         obtain ⟨aA3, US, DA, Dz⟩ := hU lJ.out eh EV EM
         cases US
         replace DA := hc HB DA
         replace Dz := hc HB Dz
         replace EV := eq_true EV
         replace EM := eq_true EM
         try go_wp2_with (first | ((with_reducible refine af (N := 5) rfl ?_); refine bE (N := 5) (cs := #[.int .u32 0, .int .i64 0]) (t := 144) ?_; intro gZ hg tj hbox hb; have cJ := ak (hbox); have aA5 := ak (gl hg : w.heap.size ≤ gZ); have aB5 := ak (gl hg : w.heap.size ≤ gZ); replace HB := bs hb; clear hb hbox hg; have CE := cf cJ 0; have CD := cf cJ 1; have Ct := J cJ.out 0; have Cs := J cJ.out 1))
         have ot : Aside0 (((tj.setCell ⟨gZ, 0, none⟩ (.int .u32 ((aD l0 eh).f0))).setCell ⟨gZ, 1, none⟩ (.int .i64 ((aD l0 eh).f1))).heap[gZ]? = some (.cells #[.int .u32 ((aD l0 eh).f0), .int .i64 ((aD l0 eh).f1)] 144 (0, 0))) := ⟨by (with_reducible repeat (first | refine ag ?_ _ | refine aj ?_ | refine ah ?_ _)); refine aM (cs := #[.int .u32 ((aD l0 eh).f0), .int .i64 0]) ?_ 1 _ rfl; (with_reducible repeat (first | refine ag ?_ _ | refine aj ?_ | refine ah ?_ _)); refine aM (cs := #[.int .u32 0, .int .i64 0]) ?_ 0 _ rfl; (with_reducible repeat (first | refine ag ?_ _ | refine aj ?_ | refine ah ?_ _)); exact cJ.out⟩
         have oq : Aside0 (Below w.heap.size w ((tj.setCell ⟨gZ, 0, none⟩ (.int .u32 ((aD l0 eh).f0))).setCell ⟨gZ, 1, none⟩ (.int .i64 ((aD l0 eh).f1)))) := ⟨bl⟩
         (try clear cJ)
         (try clear HB)
         generalize ((tj.setCell ⟨gZ, 0, none⟩ (.int .u32 ((aD l0 eh).f0))).setCell ⟨gZ, 1, none⟩ (.int .i64 ((aD l0 eh).f1))) = vG at ot oq ⊢
         have cJ := ot
         have HB := oq
         clear ot oq
         replace cJ := ak (aj cJ.out)
         replace HB := ak (gM HB.out)
         refine dV (n := 14) (S := fun w' => w'.cell? ⟨gZ, 0, none⟩ = some (.int .u32 ((aD l0 eh).f0)) ∧ w'.cell? ⟨gZ, 1, none⟩ = some (.int .i64 ((aD l0 eh).f1))) (ds := []) #[false, false, false, false, false, false, false, false, false, false, false, false, false, false] (by kernel_rfl) rfl rfl ⟨(cD cJ.out 0).trans rfl, (cD cJ.out 1).trans rfl⟩ (fun hHeld => ?_); refine cz bw.tab5 bw.bits5 (fun aa bV => ?_)
         generalize vG.drew = Pv at cJ HB hHeld ⊢
         refine pu 0 aa.out ?_
         refine pu 1 aa.out ?_
         refine pu 7 aa.out ?_
         refine tk 2 aa.out bV.out hHeld ?_ (hv := by rintro w' ⟨s0, s1⟩; go_simp; with_reducible rfl)
         refine pu 3 aa.out ?_
         refine tk 8 aa.out bV.out hHeld ?_ (hv := by rintro w' ⟨s0, s1⟩; go_simp; with_reducible rfl)
         refine pu 9 aa.out ?_
         refine on 4 aa.out (fun K hK => ?_)
         refine gs Tryz.func63 #[.int .u64 (IntKind.u64.wrap ((aD l0 eh).f0)), .int .i64 4] (av.calls k1 (IntKind.u64.wrap ((aD l0 eh).f0)) 4 iF _ A9.out) ?_
         rintro e xW ⟨AH, rfl, sH, hb⟩
         refine ⟨_, rfl, ?_⟩
         have jW := ak (Kd.R_lower sH (fj bl))
         replace cJ := bm cJ hb
         replace HB := bs hb
         (try clear hb)
         (try clear aU)
         (try clear hk)
         (try clear hi)
         (try clear sH)
         refine kn hK ⟨(cD cJ.out 0).trans rfl, (cD cJ.out 1).trans rfl⟩ (fun hHeld => ?_)
         clear hK K
         refine JX (σ := Value) 2 #[true, true, true, true, true, true, true, true, true, true, true, true, false, false] (fun s_ => [(23, .string (strOfNums iF)), (28, s_), (29, .string (strOfNums jz)), (24, .string (bK ++ (strOfNums iF)))]) (fun s_ w' => (w'.cell? ⟨gZ, 0, none⟩ = some (.int .u32 ((aD l0 eh).f0)) ∧ w'.cell? ⟨gZ, 1, none⟩ = some (.int .i64 ((aD l0 eh).f1))) ∧ (Kd.R (Kd.int .u8) 5 w' w.heap.size (fun k_ => some k_ ≠ (s_ : Value).ownBlock) AH iF) ∧ (Kd.R (Kd.int .u8) 5 w' w.heap.size (fun k_ => some k_ ≠ (AH : Value).ownBlock) s_ jz) ∧ (w'.heap[gZ]? = some (.cells #[.int .u32 ((aD l0 eh).f0), .int .i64 ((aD l0 eh).f1)] 144 (0, 0))) ∧ (Below w.heap.size w w')) ?_ ?_
         rotate_left
         ·intro hCont
          refine tw 5 10 aa.out (fun K hK => ?_) (fun K hK => ?_)
          ·skip
           have WW := di (P := Tryz.prog) Tryz.underlying61 Tryz.underlying5 Tryz.underlying9 (Kd.own_of_R jW.out)
           refine vI (w1 := ?_) (v := ?_) (by rfl) rfl ?_ ?_
           rotate_left 2
           ·go_simp
            constructor
            ·rfl
            ·rfl
           clear WW
           refine kn hK ⟨(cD cJ.out 0).trans rfl, (cD cJ.out 1).trans rfl⟩ (fun hHeld => ?_)
           clear hK K
           refine pu 6 aa.out ?_
           refine on 10 aa.out (fun K hK => ?_)
           refine gs Tryz.func63 #[.int .u64 (IntKind.u64.wrap ((aD l0 eh).f1)), .int .i64 2] (av.calls k1 (IntKind.u64.wrap ((aD l0 eh).f1)) 2 jz _ QH.out) ?_
           rintro e rn ⟨tl, rfl, sH, hb⟩
           refine ⟨_, rfl, ?_⟩
           have pK := ak (Kd.R_lower (Kd.R_new' sH (Kd.R_lt (by (with_reducible repeat (first | apply Kd.R_alloc | apply Kd.R_drewN | apply Kd.R_drew)); exact jW.out))) (fj bl))
           replace jW := ak (Kd.R_elder' (by (with_reducible repeat (first | apply Kd.R_alloc | apply Kd.R_drewN | apply Kd.R_drew)); exact jW.out) (Kd.R_base sH) hb)
           replace cJ := bm cJ hb
           replace HB := bs hb
           (try clear hb)
           (try clear aU)
           (try clear hk)
           (try clear hi)
           (try clear sH)
           refine kn hK ⟨(cD cJ.out 0).trans rfl, (cD cJ.out 1).trans rfl⟩ (fun hHeld => ?_)
           clear hK K
           refine on 11 aa.out (fun K hK => ?_)
           have BB := di (P := Tryz.prog) Tryz.underlying61 Tryz.underlying5 Tryz.underlying9 (Kd.own_of_R pK.out)
           refine vI (w1 := ?_) (v := ?_) (by rfl) rfl ?_ ?_
           rotate_left 2
           ·go_simp
            constructor
            ·rfl
            ·rfl
           clear BB
           refine kn hK ⟨(cD cJ.out 0).trans rfl, (cD cJ.out 1).trans rfl⟩ (fun hHeld => ?_)
           clear hK K
           exact y7 (by simp only [qc, Act.put, List.setIfInBounds_toArray, List.set_cons_zero, List.set_cons_succ]) (hCont (tl) _ ⟨hHeld, (by (with_reducible repeat (first | apply Kd.R_alloc | apply Kd.R_drewN | apply Kd.R_drew)); exact Kd.R_mono jW.out (fun _ hk => hk.2)), (by (with_reducible repeat (first | apply Kd.R_alloc | apply Kd.R_drewN | apply Kd.R_drew)); exact Kd.R_mono pK.out (fun _ hk => hk.2)), (bk cJ), bl⟩)
          ·skip
           refine gs Tryz.func63 #[.int .u64 (IntKind.u64.wrap ((aD l0 eh).f1)), .int .i64 2] (av.calls k1 (IntKind.u64.wrap ((aD l0 eh).f1)) 2 jz _ QH.out) ?_
           rintro e Pu ⟨tl, rfl, sH, hb⟩
           refine ⟨_, rfl, ?_⟩
           have pK := ak (Kd.R_lower (Kd.R_new' sH (Kd.R_lt (by (with_reducible repeat (first | apply Kd.R_alloc | apply Kd.R_drewN | apply Kd.R_drew)); exact jW.out))) (fj bl))
           replace jW := ak (Kd.R_elder' (by (with_reducible repeat (first | apply Kd.R_alloc | apply Kd.R_drewN | apply Kd.R_drew)); exact jW.out) (Kd.R_base sH) hb)
           replace cJ := bm cJ hb
           replace HB := bs hb
           (try clear hb)
           (try clear aU)
           (try clear hk)
           (try clear hi)
           (try clear sH)
           refine kn hK ⟨(cD cJ.out 0).trans rfl, (cD cJ.out 1).trans rfl⟩ (fun hHeld => ?_)
           clear hK K
           refine tw 5 11 aa.out (fun K hK => ?_) (fun K hK => ?_)
           ·skip
            have J5 := di (P := Tryz.prog) Tryz.underlying61 Tryz.underlying5 Tryz.underlying9 (Kd.own_of_R jW.out)
            refine vI (w1 := ?_) (v := ?_) (by rfl) rfl ?_ ?_
            rotate_left 2
            ·go_simp
             constructor
             ·rfl
             ·rfl
            clear J5
            refine kn hK ⟨(cD cJ.out 0).trans rfl, (cD cJ.out 1).trans rfl⟩ (fun hHeld => ?_)
            clear hK K
            refine pu 6 aa.out ?_
            refine on 11 aa.out (fun K hK => ?_)
            have BB := di (P := Tryz.prog) Tryz.underlying61 Tryz.underlying5 Tryz.underlying9 (Kd.own_of_R pK.out)
            refine vI (w1 := ?_) (v := ?_) (by rfl) rfl ?_ ?_
            rotate_left 2
            ·go_simp
             constructor
             ·rfl
             ·rfl
            clear BB
            refine kn hK ⟨(cD cJ.out 0).trans rfl, (cD cJ.out 1).trans rfl⟩ (fun hHeld => ?_)
            clear hK K
            exact y7 (by simp only [qc, Act.put, List.setIfInBounds_toArray, List.set_cons_zero, List.set_cons_succ]) (hCont (tl) _ ⟨hHeld, (by (with_reducible repeat (first | apply Kd.R_alloc | apply Kd.R_drewN | apply Kd.R_drew)); exact Kd.R_mono jW.out (fun _ hk => hk.2)), (by (with_reducible repeat (first | apply Kd.R_alloc | apply Kd.R_drewN | apply Kd.R_drew)); exact Kd.R_mono pK.out (fun _ hk => hk.2)), (bk cJ), bl⟩)
           ·skip
            have J5 := di (P := Tryz.prog) Tryz.underlying61 Tryz.underlying5 Tryz.underlying9 (Kd.own_of_R pK.out)
            refine vI (w1 := ?_) (v := ?_) (by rfl) rfl ?_ ?_
            rotate_left 2
            ·go_simp
             constructor
             ·rfl
             ·rfl
            clear J5
            refine kn hK ⟨(cD cJ.out 0).trans rfl, (cD cJ.out 1).trans rfl⟩ (fun hHeld => ?_)
            clear hK K
            refine on 5 aa.out (fun K hK => ?_)
            have BB := di (P := Tryz.prog) Tryz.underlying61 Tryz.underlying5 Tryz.underlying9 (Kd.own_of_R jW.out)
            refine vI (w1 := ?_) (v := ?_) (by rfl) rfl ?_ ?_
            rotate_left 2
            ·go_simp
             constructor
             ·rfl
             ·rfl
            clear BB
            refine kn hK ⟨(cD cJ.out 0).trans rfl, (cD cJ.out 1).trans rfl⟩ (fun hHeld => ?_)
            clear hK K
            refine pu 6 aa.out ?_
            exact y7 (by simp only [qc, Act.put, List.setIfInBounds_toArray, List.set_cons_zero, List.set_cons_succ]) (hCont (tl) _ ⟨hHeld, (by (with_reducible repeat (first | apply Kd.R_alloc | apply Kd.R_drewN | apply Kd.R_drew)); exact Kd.R_mono jW.out (fun _ hk => hk.2)), (by (with_reducible repeat (first | apply Kd.R_alloc | apply Kd.R_drewN | apply Kd.R_drew)); exact Kd.R_mono pK.out (fun _ hk => hk.2)), (bk cJ), bl⟩)
         rintro tl xV ⟨bx, YJ, MA, Mz, BG⟩
         have ot : Aside0 (Kd.R (Kd.int .u8) 5 xV w.heap.size (fun k_ => some k_ ≠ (tl : Value).ownBlock) AH iF) := ⟨YJ⟩
         have oq : Aside0 (Kd.R (Kd.int .u8) 5 xV w.heap.size (fun k_ => some k_ ≠ (AH : Value).ownBlock) tl jz) := ⟨MA⟩
         have LU : Aside0 (xV.heap[gZ]? = some (.cells #[.int .u32 ((aD l0 eh).f0), .int .i64 ((aD l0 eh).f1)] 144 (0, 0))) := ⟨Mz⟩
         have Yf : Aside0 (Below w.heap.size w xV) := ⟨BG⟩
         clear cJ
         clear HB
         clear YJ MA Mz BG
         have jW := ot
         have pK := oq
         have cJ := LU
         have HB := Yf
         clear ot oq LU Yf
         have hHeld : xV.cell? ⟨gZ, 0, none⟩ = some (.int .u32 ((aD l0 eh).f0)) ∧ xV.cell? ⟨gZ, 1, none⟩ = some (.int .i64 ((aD l0 eh).f1)) := bx
         refine nj ?_
         refine pu 12 aa.out ?_
         refine pu 13 aa.out ?_
         refine dn aa.out ?_
         try go_wp2
         go_roundg k1
         case measure => have := ee.out; omega
         case rel => exact ⟨((bK ++ (strOfNums iF)) ++ (strOfNums jz)), (wrap64 (eh + 1)), rf, rf, H', ⟨by have := ee.out; omega⟩, ⟨bl⟩⟩
        ·rw [if_neg dB] at H
         exact absurd H (by simp)
       ·rw [if_neg c10] at H
        exact absurd H (by simp)
      ·rw [if_neg c8] at H
       exact absurd H (by simp)
     ·rw [if_neg c7] at H
      exact absurd H (by simp)
    ·rw [if_neg c6] at H
     have jd := decide_eq_false c6
     clear c6
     obtain rfl := Option.some.inj H
     go_wp2
     go_ret
     exact ⟨rg, bl⟩
 ·rw [if_neg c3] at H
  exact absurd H (by simp)
end
section
theorem EK (l : List Cn) (i : Nat) (hi : i < l.length) : aD (l.map ko) (i : Int) = ko (ct l (i : Int)) := by
 simp [aD, ct, List.getD, hi]
theorem DN (l : List Cn) (h : yO l) (hl : l.length ≤ 65535) : ∀ (d i k : Nat), i + d = l.length → d < k → bX.l0 k (l.map ko) (l.map ko) (l.length : Int) (i : Int) = some (((List.range d).all fun j => !nD l (i + j)) && decide (l.length ≤ 4096))
 | 0, i, k, hi, hk => by
  obtain ⟨k, rfl⟩ : ∃ m, k = m + 1 := ⟨k - 1, by omega⟩
  rw [bX.l0, if_neg (by omega), List.length_map]
  simp
  omega
 | d + 1, i, k, hi, hk => by
  obtain ⟨k, rfl⟩ : ∃ m, k = m + 1 := ⟨k - 1, by omega⟩
  have hil : i < l.length := by omega
  have ih := DN l h hl d (i + 1) k (by omega) (by omega)
  have hc := F7 h i hil
  obtain ⟨n, hn⟩ : ∃ n : Nat, (ct l (i : Int)).f0 = (n : Int) := ⟨(ct l (i : Int)).f0.toNat, by omega⟩
  have e0 : ((List.range (d + 1)).all fun j => !nD l (i + j)) = (!nD l i && (List.range d).all fun j => !nD l (i + 1 + j)) := by
   rw [List.range_succ_eq_map, List.all_cons, List.all_map]
   congr 1
   congr 1
   funext j
   simp only [Function.comp, Nat.succ_eq_add_one]
   rw [show i + (j + 1) = i + 1 + j by omega]
  have hrd : aD (l.map ko) (i : Int) = ⟨(n : Int), (ct l (i : Int)).f1⟩ := by rw [EK l i hil, ko, hn]
  have hml : (l.map ko).length = l.length := List.length_map ..
  rw [e0, bX.l0, hml, if_pos (by omega), if_pos (by omega), if_pos (by omega), hrd]
  dsimp only
  rw [bB ((i : Int) + 1) (by omega) (by omega), show (i : Int) + 1 = ((i + 1 : Nat) : Int) by omega, ih]
  unfold nD
  rw [hn]
  have ht : Int.tmod (n : Int) 64 = (n : Int) % 64 := Int.tmod_eq_emod_of_nonneg (by omega)
  rw [ht]
  by_cases c0 : n % 64 = 0
  ·rw [if_pos (by omega), decide_eq_false (show ¬ ((n : Int) % 64 ≠ 0) by omega), Bool.false_or]
   by_cases c1 : (ct l (i : Int)).f1 < 1
   ·rw [if_pos c1, decide_eq_true c1]; simp
   ·rw [if_neg c1, decide_eq_false c1, Bool.false_or]
    by_cases c2 : (ct l (i : Int)).f1 > 65535
    ·rw [if_pos c2, decide_eq_true c2]; simp
    ·rw [if_neg c2, decide_eq_false c2, Bool.false_or]
     by_cases c3 : 0 < i
     ·rw [if_pos (by omega), bB ((i : Int) - 1) (by omega) (by omega), if_pos (by omega), if_pos (by omega), show (i : Int) - 1 = ((i - 1 : Nat) : Int) by omega, EK l (i - 1) (by omega), decide_eq_true c3, Bool.true_and]
      by_cases c4 : (n : Int) ≤ (ct l ((i - 1 : Nat) : Int)).f0
      ·rw [if_pos (show (n : Int) ≤ (ko _).f0 from c4), decide_eq_true c4]; simp
      ·rw [if_neg (show ¬ ((n : Int) ≤ (ko _).f0) from c4), decide_eq_false c4]; simp
     ·rw [if_neg (by omega), decide_eq_false c3]; simp
  ·rw [if_neg (by omega), decide_eq_true (show ((n : Int) % 64 ≠ 0) by omega)]; simp
theorem Oq {l : List Cn} (h : yO l) (hl : l.length ≤ 65535) : bX.f 65537 (l.map ko) = some (kI l) := by
 unfold bX.f kI
 rw [List.length_map]
 have e := DN l h hl l.length 0 65537 (by omega) (by omega)
 simp only [Nat.zero_add] at e
 exact e
theorem IJ (n : Nat) (hn : n < 65536) (k : Nat) (hk : 20 ≤ k) : av.f k (n : Int) 2 = some (vn n) := by
 obtain ⟨k, rfl⟩ : ∃ m, k = m + 4 := ⟨k - 4, by omega⟩
 unfold av.f
 rw [if_neg (by decide), show decide ((2 : Int) > 8) = false from rfl, av.j0, if_neg (by decide), if_pos (by decide), if_pos (by decide), show wrap64 ((2 : Int) - 1) = ((1 : Nat) : Int) by unfold wrap64; omega]
 rw [o4 n 1 (k + 2) _ (by omega) (by decide) (by omega), show ((1 : Nat) : Int) - 1 = ((0 : Nat) : Int) by omega, o4 _ 0 (k + 1) _ (by omega) (by simp) (by omega), av.l0, if_neg (by decide)]
 rfl
theorem II (n : Nat) (hn : n < 4294967296) (k : Nat) (hk : 20 ≤ k) : av.f k (n : Int) 4 = some (lR n) := by
 obtain ⟨m, rfl⟩ : ∃ m, k = 20 + m := ⟨k - 20, by omega⟩
 have h := Ia n hn
 clear hk
 induction m with
 | zero => exact h
 | succ m ih => exact av.mono _ _ _ _ ih
theorem Hw (x y : List Int) : strOfNums (x ++ y) = strOfNums x ++ strOfNums y := by
 apply ByteArray.ext
 apply Array.ext'
 simp [strOfNums_data]
theorem IH (l : List Cn) (h : yO l) (hl : l.length ≤ 65535) : ∀ (d i k : Nat) (x : ByteArray), i + d = l.length → d + 20 < k → x.size ≤ 1000 + 6 * i → bw.l0 k x (l.map ko) (l.length : Int) (i : Int) = some (x ++ strOfNums ((l.drop i).flatMap xp))
 | 0, i, k, x, hi, hk, hx => by
  obtain ⟨k, rfl⟩ : ∃ m, k = m + 1 := ⟨k - 1, by omega⟩
  rw [bw.l0, if_neg (by omega), List.drop_of_length_le (by omega)]
  congr 1
  apply ByteArray.ext
  apply Array.ext'
  simp [strOfNums_data]
 | d + 1, i, k, x, hi, hk, hx => by
  obtain ⟨k, rfl⟩ : ∃ m, k = m + 1 := ⟨k - 1, by omega⟩
  have hil : i < l.length := by omega
  have hc := F7 h i hil
  have hml : (l.map ko).length = l.length := List.length_map ..
  obtain ⟨c, hcq⟩ : ∃ c, ct l (i : Int) = c := ⟨_, rfl⟩
  have hci : l[i] = c := by rw [← hcq]; simp [ct, List.getD, hil]
  rw [hcq] at hc
  obtain ⟨c0, c1⟩ := c
  dsimp only at hc
  obtain ⟨n, rfl⟩ : ∃ n : Nat, c0 = n := ⟨c0.toNat, by omega⟩
  obtain ⟨m, rfl⟩ : ∃ m : Nat, c1 = m := ⟨c1.toNat, by omega⟩
  have hrd : aD (l.map ko) (i : Int) = ⟨(n : Int), (m : Int)⟩ := by rw [EK l i hil, hcq]; rfl
  have z4 : (strOfNums (lR n)).size = 4 := by rw [strOfNums_size]; rfl
  have z2 : (strOfNums (vn m)).size = 2 := by rw [strOfNums_size]; rfl
  rw [bw.l0, hml, if_pos (by omega), if_pos (by omega), if_pos (by omega), hrd]
  dsimp only
  rw [jY n (by omega), II n (by omega) k (by omega), Option.bind_some, if_pos (by rw [z4]; omega), jY m (by omega), IJ m (by omega) k (by omega), Option.bind_some, if_pos (by rw [ByteArray.size_append, z4, z2]; omega), bB ((i : Int) + 1) (by omega) (by omega), show (i : Int) + 1 = ((i + 1 : Nat) : Int) by omega,
   IH l h hl d (i + 1) k _ (by omega) (by omega) (by rw [ByteArray.size_append, ByteArray.size_append, z4, z2]; omega)]
  congr 1
  rw [List.drop_eq_getElem_cons hil, hci, List.flatMap_cons, Hw, show xp ⟨(n : Int), (m : Int)⟩ = lR n ++ vn m by simp [xp], Hw]
  simp [ByteArray.append_assoc]
theorem Sm {l : List Cn} (h : yO l) (hl : l.length ≤ 65535) : bw.f 65600 (l.map ko) = some (strOfNums (Ch l)) := by
 unfold bw.f
 have z2 : (strOfNums (vn l.length)).size = 2 := by rw [strOfNums_size]; rfl
 rw [List.length_map, jY l.length (by omega), IJ l.length (by omega) _ (by omega), Option.bind_some, if_pos (by rw [z2]; omega)]
 have e := IH l h hl l.length 0 65600 ((⟨#[72]⟩ : ByteArray) ++ strOfNums (vn l.length)) (by omega) (by omega) (by rw [ByteArray.size_append, z2]; show 1 + 2 ≤ _; omega)
 rw [show ((0 : Nat) : Int) = 0 from rfl] at e
 rw [e, List.drop_zero]
 congr 1
end
section
theorem xw {α : Type} {d : Kd α} {e base g : Nat} {W W1 : World} {ok zy : Nat → Prop} {v : Value} {xs : List α} {l : List Int} {bad : Bool} (h : d.R e W base ok v xs) (hq : Rq W g zy l bad) (ht : ∀ q, q ∈ e :: d.E → q ≠ 150) (hg : W.grownBy W1 (some g)) : d.R e W1 base ok v xs := by
 obtain ⟨A, c, L, n, hr, _⟩ := hq
 exact bS h hr.box ht hg
theorem AY {α : Type} {d : Kd α} {e b1 gr gB : Nat} {W w1 : World} {ok : Nat → Prop} {v : Value} {xs : List α} {l : List Int} {bad : Bool} (hq : Rq W gr (fun k => k = gB) l bad) (hr : d.R e W b1 ok v xs) (hg : W.grownBy w1 v.ownBlock) (h1 : gB < b1) (h2 : gr < b1) : Rq w1 gr (fun k => k = gB) l bad :=
 hq.grown hg (fun k hk he => by subst hk; have := Kd.R_base hr _ he.symm; omega) (fun he => by have := Kd.R_base hr _ he.symm; omega)
theorem eI {α : Type} {d : Kd α} {e base : Nat} {w : World} {ok : Nat → Prop} {A : Option Addr} {c : Nat} {xs : List α} (h : d.R e w base ok (.slice A xs.length c) xs) : d.C w A xs.length xs ∧ xs.length ≤ c := ⟨(Kd.R_reads' h).2.2, (Kd.R_reads' h).2.1⟩
theorem zq : ∀ a : Act, Tryz.prog.built 49 ((#[] : Array (Nat × Operand)).map fun (i, x) => (i, a.eval x)).toList = some gw.toArray := fun _ => by kernel_rfl
def uv (s : ByteArray) (w : World) (e : Ending) (w' : World) : Prop := ∃ vs vf va, e = .returned (.tuple #[.agg #[.int .u32 (if cB s = true then (cd s).addr else 0), .string (if cB s = true then (cd s).aff else ⟨#[]⟩), vs, vf, va], .bool (cB s)]) ∧
   (Kd.R (Kd.int .i64) 3 w' w.heap.size (fun k_ => some k_ ≠ vf.ownBlock) vs (if cB s = true then (cd s).slots else []) ∧ Kd.R (Kd.int .i64) 3 w' w.heap.size (fun k_ => some k_ ≠ vs.ownBlock) vf (if cB s = true then (cd s).free else []) ∧ Kd.R iZ 78 w' w.heap.size (fun _ => True) va (if cB s = true then (cd s).attrs.map vc else [])) ∧ Below w.heap.size w w'
theorem zk {s : ByteArray} {w w' : World} {e : Ending} (he : e = .returned (.tuple #[.agg gw.toArray, .bool false])) (h : cB s = false) (hb : Below w.heap.size w w') : uv s w e w' := by
 unfold uv
 subst he
 rw [h]
 exact ⟨_, _, _, rfl, ⟨Kd.R_nil _ _ _ _ _, Kd.R_nil _ _ _ _ _, Kd.R_nil _ _ _ _ _⟩, hb⟩
theorem Oz {s : ByteArray} {w w' : World} {e : Ending} {bb bf : Nat} {b : Bk} {vs vf va : Value} {M : List S78} (hen : e = .returned (.tuple #[.agg #[.int .u32 b.addr, .string b.aff, vs, vf, va], .bool true])) (h : cB s = true) (he : cd s = b) (hM : M = b.attrs.map vc) (h1 : w.heap.size ≤ bb) (h2 : bb ≤ bf)
  (hs : Kd.R (Kd.int .i64) 3 w' bb (fun k => k < bf) vs b.slots) (hf : Kd.R (Kd.int .i64) 3 w' bf (fun _ => True) vf b.free) (ha : Kd.R iZ 78 w' bb (fun _ => True) va M)
  (hb : Below w.heap.size w w') : uv s w e w' := by
 unfold uv
 subst hen
 subst hM
 subst he
 rw [h]
 refine ⟨_, _, _, rfl, ⟨?_, ?_, Kd.R_lower ha h1⟩, hb⟩
 ·refine Kd.R_lower (Kd.R_mono hs (fun k hk e => ?_)) h1
  have := Kd.R_base hf k e.symm
  omega
 ·refine Kd.R_lower (Kd.R_reok rfl hf (fun k hk e => ?_)) (Nat.le_trans h1 h2)
  have h3 := hs.1 k e.symm
  have := Kd.R_base hf k hk
  omega
def u5.T9 : Bool × List (List Nat × List Nat) := (true, [([], []), ([0], [0]), ([], []), ([], []), ([3], [3]), ([2, 4], [2, 4]), ([5], [5]), ([1, 6, 4], [1, 6]), ([0, 1, 2, 3, 4, 5, 6, 7], []), ([8, 7, 7, 0, 1, 2, 3, 4, 5, 6, 7], [7, 8])])
def u5.B9 : List Nat := [0, 1, 0, 0, 8, 28, 60, 127, 255, 511]
theorem u5.tab9 : dA .any (opsOf Tryz.f40 9) = u5.T9 := by kernel_rfl
theorem u5.bits9 : dy u5.T9.2 u5.B9 = true := by kernel_rfl
set_option maxHeartbeats 8000000 in
set_option maxRecDepth 100000 in
theorem OA (s : ByteArray) (hs : s.size ≤ 1000000) (w : World) :
  Calls Tryz.prog 40 #[.string s] w (uv s w) := by
 have tV := we s
 have kk := y6 s
 have Mr : az (aC (r2 s).2.1 (r2 s).2.2 1).1 < 256 := pf (wX s) _
 have Ue := y5 s
 have HPI := ak (TB s)
 have vr := ak (b9 (wX s) (r2 s).2.2 1).2
 have HBK : Aside0 (cd s = ⟨(az (r1 s).1 : Nat), strOfNums (r2 s).1, kY (List.replicate 64 0) (r4 s).1, (r6 s).1, (r3 s).1⟩) := ⟨rfl⟩
 have vt : Aside0 (eL (az (aC (r2 s).2.1 (r2 s).2.2 1).1) (aC (r2 s).2.1 (r2 s).2.2 1).2.1 (aC (r2 s).2.1 (r2 s).2.2 1).2.2 = r3 s) := ⟨rfl⟩
 have H0 := ak (@Qc · · · s)
 have H1 := ak (@Xf · · · s)
 have H2 := ak (@Xg · · · s)
 have H3 := ak (@Xe · · · s)
 have HRB := ak (@Lm · · · s hs)
 have HOK : Aside0 (cB s = (ju s && (decide (az (r0 s).1 = 66) && fl (cd s)))) := ⟨rfl⟩
 generalize az (r0 s).1 = n0 at tV H0 HOK HPI
 generalize az (r1 s).1 = n1 at kk H1 HBK
 generalize hp3 : aC (r2 s).2.1 (r2 s).2.2 1 = p3 at H3 vt Mr vr
 obtain ⟨L3, l3, aa6⟩ := p3
 dsimp only at H3 vt Mr vr
 generalize az L3 = n3 at H3 vt Mr
 generalize strOfNums (r2 s).1 = aff at H2 HBK
 have kb := fun (w : World) => Lib.run_convert_string_bytes (P := Tryz.prog) w 9 61 5 s Tryz.underlying9 Tryz.underlying61 Tryz.underlying5
 clear hp3
 go_enter Tryz.func40, Tryz.ntmps40
 go_wp2_with (first
  | (refine aE (some 2) rfl rfl 49 rfl gw (fun _ => by kernel_rfl) ?_; intro g2 W1 dz cP aw; have eM := ak cP; have bR := ak aw; have fR := ak dz; clear cP aw dz)
  | ((with_reducible refine af (N := 15) rfl ?_); refine dh rfl 150 #[(0, .tmp 14)] rfl [(0, .slice (some ⟨W1.heap.size, 0, none⟩) s.size (grownCap W1 s.size 0 5))] (by simp only [List.map_toArray, List.map_cons, List.map_nil]; rfl) [Value.slice (some ⟨W1.heap.size, 0, none⟩) s.size (grownCap W1 s.size 0 5), .int .i64 0, .bool false] (Gf _ _ _) ?_)
  | (refine cH rfl 150 (.tmp 15) rfl _ rfl ?_; intro gr W2 hgr tY aU; have HBY := ak (Lib.bytesWorld_below W1 5 s); have AA := ak (HBY.out.trans (aU.mono HBY.out.size)); have jr := ak (HRB.out _ _ _ aU hgr tY); have iO := ak (eM.out.below AA.out); have dW := ak (bR.out.trans (AA.out.mono bR.out.size)); have HGR := ak (show w.heap.size ≤ gr by have := bR.out.size; rw [Lib.bytesWorld_size] at hgr; omega); have HGB := ak (show w.heap.size ≤ W1.heap.size from bR.out.size); have HNE := ak (show g2 ≠ gr by have := eM.out.lt; rw [Lib.bytesWorld_size] at hgr; omega); have HNB := ak (show g2 ≠ W1.heap.size by have := eM.out.lt; omega); have HGBR := ak (show W1.heap.size < gr by rw [Lib.bytesWorld_size] at hgr; omega); generalize hbB : W1.heap.size = gB at jr HGB HNB HGBR; clear hgr tY aU HBY AA eM bR HRB hbB kb)
  | (go_at_call 64; refine (H0.out _ _ _ jr.out).mono ?_; rintro e W3 ⟨rfl, fP, dd⟩; have kN := ak fP; have kV := ak (iO.out.grown dd (fun e => HNE.out (Option.some.inj e))); have ep := ak (dW.out.grown dd dW.out.size (by intro k hk; cases hk; exact HGR.out)); clear fP dd jr iO dW)
  | (go_at_call 64; refine (H1.out _ _ _ kN.out).mono ?_; rintro e W4 ⟨rfl, yo, cQ⟩; have vu := ak yo; have nT := ak (kV.out.grown cQ (fun e => HNE.out (Option.some.inj e))); have iQ := ak (ep.out.grown cQ ep.out.size (by intro k hk; cases hk; exact HGR.out)); clear yo cQ kN kV ep)
  | (go_at_call 65; refine (H2.out _ _ _ vu.out).mono ?_; rintro e W5 ⟨rfl, yn, dH⟩; have yM := ak yn; have nJ := ak (nT.out.grown dH (fun e => HNE.out (Option.some.inj e))); have lK := ak (iQ.out.grown dH iQ.out.size (by intro k hk; cases hk; exact HGR.out)); clear yn dH vu nT iQ)
  | ((with_reducible refine af (N := 24) rfl ?_); refine dh rfl 49 #[(0, .tmp 21), (1, .tmp 23)] rfl [(0, .int .u32 (n1 : Int)), (1, .string aff)] (by simp only [List.map_toArray, List.map_cons, List.map_nil]; rfl) [Value.int .u32 (n1 : Int), .string aff, .slice none 0 0, .slice none 0 0, .slice none 0 0] (MT _ _) ?_)
  | (refine aE (some 5) rfl rfl 49 rfl gw (fun _ => by kernel_rfl) ?_; intro g5 W6 jD gK mj; have DW := ak gK; have sI := ak (nJ.out.below mj); have M9 := ak (yM.out.below mj); have nM := ak (lK.out.trans (mj.mono lK.out.size)); have mT := ak (show w.heap.size ≤ g5 by have := lK.out.size; omega); have KD := ak (show g2 ≠ g5 by have := nJ.out.lt; omega); have vE := ak (show gr ≠ g5 by have := yM.out.lt; omega); have CY := ak (show gB ≠ g5 by have := yM.out.lt; have := HGBR.out; omega); clear gK mj jD nJ yM lK)
  | (refine ay rfl 49 (.tmp 5) (.tmp 24) rfl g5 [Value.int .u32 (n1 : Int), .string aff, .slice none 0 0, .slice none 0 0, .slice none 0 0] rfl rfl 49 _ DW.out 5 (by kernel_rfl) rfl rfl (by intro u hu; simp at hu; rcases hu with rfl | rfl | rfl | rfl | rfl <;> rfl) ?_; intro W7 Dx dq; have yK := ak Dx; have uj := ak (sI.out.grown dq (fun e => KD.out (Option.some.inj e))); have QB := ak (M9.out.grown dq (fun k hk e => by have := Option.some.inj e; exact CY.out (hk.symm.trans this)) (fun e => vE.out (Option.some.inj e))); have mU := ak (nM.out.grown dq nM.out.size (by intro k hk; cases hk; exact mT.out)); clear Dx dq DW sI M9 nM)
  | (go_at_call 64; refine (H3.out _ _ _ QB.out).mono ?_; rintro e W8 ⟨rfl, Yp, dG⟩; have Jb := ak Yp; have mu := ak (uj.out.grown dG (fun e => HNE.out (Option.some.inj e))); have xM := ak (yK.out.grown dG (fun e => vE.out (Option.some.inj e).symm)); have jN := ak (mU.out.grown dG mU.out.size (by intro k hk; cases hk; exact HGR.out)); clear Yp dG QB uj yK mU))
 clear H0 H1 H2 H3
 obtain ⟨bb, hbb⟩ : ∃ bb, bb = gr + 1 := ⟨_, rfl⟩
 have GN := ak (show gB < bb by have := HGBR.out; omega)
 have KH := ak (show gr < bb by omega)
 have HWB := ak (show w.heap.size ≤ bb by have := HGR.out; omega)
 have HLE := ak (fun (W : World) (l : List Int) (bad : Bool) (h : Rq W gr (fun k => k = gB) l bad) => show bb ≤ W.heap.size by have := h.lt; omega)
 clear hbb
 go_loopw [7, 8] (fun i _ W => ∃ (k m : Nat) (l2 : List Int) (fC : Bool) (acc : List At) (va : Value), k + m = n3 ∧ acc.length ≤ k ∧ i = .int .i64 k ∧ Aside0 (bC W g5 [.int .u32 (n1 : Int), .string aff, .slice none 0 0, .slice none 0 0, va] 49) ∧ Aside0 (Kd.R iZ 78 W bb (fun _ => True) va (acc.map vc)) ∧ Aside0 (Rq W gr (fun k => k = gB) l2 fC) ∧ Aside0 (dC l2) ∧ Aside0 (bC W g2 gw 49) ∧ Aside0 (Below w.heap.size w W) ∧ Aside0 (r3 s = (acc ++ (eL m l2 fC).1, (eL m l2 fC).2))) (fun i _ _ => n3 - (intOf i).toNat)
 case atStart => exact ⟨0, n3, l3, aa6, [], _, by omega, by simp, rfl, xM, ⟨Kd.R_nil _ _ _ _ _⟩, Jb, vr, mu, jN, ⟨by rw [vt.out, List.nil_append]⟩⟩
 case round =>
  clear xM Jb vr mu jN vt
  obtain ⟨k, m, l2, fC, acc, va, hkm, hacc, rfl, HY, HA, HQ, HU, HX, HB, HE⟩ := hrel
  obtain ⟨W, rfl⟩ : ∃ W : World, W = wr := ⟨_, rfl⟩
  by_cases hgo : 0 < m ∧ fC = false
  ·obtain ⟨hm, rfl⟩ := hgo
   obtain ⟨m, rfl⟩ : ∃ q, m = q + 1 := ⟨m - 1, by omega⟩
   have aw : decide ((k : Int) < (n3 : Int)) = true := by simp; omega
   have Uf : k < n3 := by omega
   have jc := HQ.out.c2
   have pM := ak (show r3 s = (acc ++ (vo l2 :: (eL m (gG l2).2.1 (gG l2).2.2).1), (eL m (gG l2).2.1 (gG l2).2.2).2) from HE.out)
   have BY := ak (fun (W : World) (h : Rq W gr (fun k => k = gB) l2 false) => yz HU.out W h)
   have Bo := lU HU.out false
   have yL := ak (fun (W : World) (h : Rq W gr (fun k => k = gB) (cK l2 false).2.1 (cK l2 false).2.2) => yz Bo W h)
   have nK := ak (lU Bo (cK l2 false).2.2)
   have HAT : Aside0 (vo l2 = ⟨strOfNums (cK l2 false).1, strOfNums (cK (cK l2 false).2.1 (cK l2 false).2.2).1⟩) := ⟨rfl⟩
   have HTE : Aside0 (gG l2 = cK (cK l2 false).2.1 (cK l2 false).2.2) := ⟨rfl⟩
   generalize gG l2 = q1 at pM HTE
   generalize vo l2 = U9 at pM HAT
   generalize cK l2 false = q0 at BY yL nK HAT HTE Bo
   generalize cK q0.2.1 q0.2.2 = q2 at yL nK HAT HTE
   obtain ⟨b0, l4, d4⟩ := q0
   obtain ⟨b1, l5, d5⟩ := q2
   dsimp only at BY yL nK HAT HTE
   obtain ⟨s0, mi⟩ : ∃ s0, s0 = strOfNums b0 := ⟨_, rfl⟩
   obtain ⟨s1, rV⟩ : ∃ s1, s1 = strOfNums b1 := ⟨_, rfl⟩
   rw [← mi] at BY HAT
   rw [← rV] at yL HAT
   obtain rfl := HAT.out
   obtain ⟨M, hM⟩ : ∃ M : List S78, M = acc.map vc := ⟨_, rfl⟩
   obtain ⟨L, hL⟩ : ∃ L : List S78, L = M ++ [(⟨s0, s1⟩ : S78)] := ⟨_, rfl⟩
   have HL := ak hL
   have HLM := ak (show L = (acc ++ [(⟨s0, s1⟩ : At)]).map vc by rw [hL, hM, List.map_append]; rfl)
   have hml : M.length ≤ 255 := by rw [hM, List.length_map]; omega
   rw [← hM] at HA
   have HKM := ak hkm
   clear mi rV Bo HU HE hL hM hkm hm
   obtain ⟨Am, cm, rfl⟩ := Kd.R_slice HA.out
   go_wp2_with (first
    | (go_at_call 65; refine (BY.out _ HQ.out).mono ?_; rintro e W1 ⟨rfl, iN, cj⟩; have je := ak iN; have eM := ak (HX.out.grown cj (fun e => HNE.out (Option.some.inj e))); have fQ := ak (HY.out.grown cj (fun e => vE.out (Option.some.inj e).symm)); have gj := ak (xw HA.out HQ.out (by decide) cj); have bR := ak (HB.out.grown cj HB.out.size (by intro k hk; cases hk; exact HGR.out)); clear iN cj HQ HX HY HA HB jc))
   have hbd : Below W1.heap.size W1 W1.drew := bu (Below.refl _ _)
   have jr := ak (je.out.below hbd)
   have iO := ak (eM.out.below hbd)
   have kp := ak (fQ.out.below hbd)
   have iJ := ak (Kd.R_below gj.out hbd)
   have dW := ak (bu bR.out)
   clear hbd je eM fQ gj bR
   refine dV (n := 10) (S := fun w' => w'.cell? ⟨g5, 4, none⟩ = some (.slice Am M.length cm)) (ds := [9]) #[false, false, false, false, false, false, false, false, false, false] (by kernel_rfl) rfl rfl (kp.out.cell 4 _ rfl) (fun hHeld => ?_); refine cz u5.tab9 u5.bits9 (fun aa bV => ?_)
   refine pu 0 aa.out ?_
   refine tk 1 aa.out bV.out hHeld ?_
   refine pu 2 aa.out ?_
   refine pu 3 aa.out ?_
   refine on 4 aa.out (fun K hK => ?_)
   refine gs Tryz.func65 #[.pointer (some ⟨gr, 0, none⟩)] (yL.out _ jr.out) ?_
   rintro e W3 ⟨rfl, fP, dd⟩
   refine ⟨_, rfl, ?_⟩
   have kN := ak fP; have kV := ak (iO.out.grown dd (fun e => HNE.out (Option.some.inj e))); have sk := ak (kp.out.grown dd (fun e => vE.out (Option.some.inj e).symm)); have ur := ak (xw iJ.out jr.out (by decide) dd); have ep := ak (dW.out.grown dd dW.out.size (by intro k hk; cases hk; exact HGR.out)); clear fP dd jr iO iJ dW
   refine kn hK (sk.out.cell 4 _ rfl) (fun hHeld => ?_)
   clear hK K
   refine pu 5 aa.out ?_
   refine on 6 aa.out (fun K hK => ?_)
   have zT := ak (sk.out.alloc (.cells [Value.string s0, .string s1].toArray 78))
   refine eJ (v := .slice (some ⟨W3.heap.size, 0, none⟩) 1 1) (w1 := W3.alloc (.cells [Value.string s0, .string s1].toArray 78)) (by rfl) ?_ ?_
   ·go_simp
    try rfl
   refine kn hK (zT.out.cell 4 _ rfl) (fun hHeld => ?_)
   clear hK K
   refine on 7 aa.out (fun K hK => ?_)
   refine Kd.R_append_step iZ (w0 := W3) bb (by rfl) (.tmp 43) (.tmp 48) 47 78 (.agg #[.string ⟨#[]⟩, .string ⟨#[]⟩]) 32 rfl Tryz.underlying47 Fk rfl (by decide) (by omega) _ M ⟨s0, s1⟩ [.string s0, .string s1] (fun _ => True) (fun _ => False) rfl rfl (Im _ _ _ _) (fun _ h => h.elim) (fun _ _ => trivial) ur.out (Below.refl _ _) (HLE.out _ _ _ kN.out) (by omega) ?_
   intro v8 w8 gR fU dG lW
   rw [← HL.out] at gR
   have xM := ak (sk.out.grown dG (sk.out.ne_row ur.out (by decide)))
   have mu := ak (kV.out.grown dG (kV.out.ne_row ur.out (by decide)))
   have Jb := ak (AY kN.out ur.out dG GN.out KH.out)
   have We := ak gR
   have jN := ak (ep.out.trans (fU.mono HWB.out))
   obtain ⟨A8, c8, rfl⟩ := Kd.R_slice gR
   clear gR fU dG lW
   refine kn hK (xM.out.cell 4 _ rfl) (fun hHeld => ?_)
   clear hK K
   refine pu 8 aa.out ?_
   refine y8 (i := 9) (N := none) #[true, true, true, true, true, true, true, true, true, true] rfl rfl (rA aa.out (by kernel_rfl)) (by decide) (fun K hK => ?_)
   have hf4 := xM.out.frozen 4; have PR := xM.out.cell 4 _ rfl
   refine uG (w1 := ?_) (by rfl) rfl ?_ ?_
   rotate_left
   ·go_simp
    rfl
   refine hK.out _ _ ?_
   clear hK K
   refine dn aa.out ?_
   have Gz := ak (show bC (w8.setCell ⟨g5, 4, none⟩ (.slice A8 L.length c8)) g5 [.int .u32 (n1 : Int), .string aff, .slice none 0 0, .slice none 0 0, .slice A8 L.length c8] 49 from xM.out.set 4 (.slice A8 L.length c8))
   have hgS := b8 w8 g5 4 (.slice A8 L.length c8)
   have HQ9 := ak (Jb.out.grown hgS (fun k hk e => by have := Option.some.inj e; exact CY.out (hk.symm.trans this)) (fun e => vE.out (Option.some.inj e)))
   clear hgS
   go_wp2
   go_roundw
   case rel => exact ⟨k + 1, m, l5, d5, acc ++ [⟨s0, s1⟩], _, by have := HKM.out; omega, by rw [List.length_append, List.length_singleton]; omega, by go_num, Gz, ⟨by rw [← HLM.out]; exact bS We.out xM.out (by decide) (b8 _ _ _ _)⟩, HQ9, nK, ⟨mu.out.far (p := ⟨g5, 4, none⟩) KD.out _⟩, ⟨Below.setCell jN.out (p := ⟨g5, 4, none⟩) mT.out _⟩, ⟨by rw [pM.out, HTE.out]; simp⟩⟩
   case measure => simp [intOf]; omega
  ·have hEx : r3 s = (acc, l2, fC) ∧ (m = 0 ∨ (0 < m ∧ fC = true)) := by
    rcases Nat.eq_zero_or_pos m with rfl | hm
    ·exact ⟨by rw [HE.out]; simp [eL], .inl rfl⟩
    ·obtain ⟨m, rfl⟩ : ∃ q, m = q + 1 := ⟨m - 1, by omega⟩
     have hbad : fC = true := by
      cases fC with
      | true => rfl
      | false => exact absurd ⟨hm, rfl⟩ hgo
     subst hbad
     exact ⟨by rw [HE.out]; simp [eL], .inr ⟨hm, rfl⟩⟩
   obtain ⟨zH, hcase⟩ := hEx
   have H4 := (@Xl · · · s)
   have H5 := ak (@Xd · · · s)
   have H6 := ak (@Xk · · · s)
   have GK := ak (Lz s)
   have VC : Aside0 (dC (r4 s).1) := ⟨(b9 (Jw s) _ _).1⟩
   have V0 := ak (Ly s)
   have VB : Aside0 (dC (r6 s).1) := ⟨(b9 (Px s) _ _).1⟩
   have HGD := ak (uX s)
   have HRR := ak (D9 s)
   have HDN : Aside0 (ju s = (!(r6 s).2.2 && (((r6 s).2.1.length : Int) == 0))) := ⟨rfl⟩
   have HBO := ak (ry s)
   rw [zH] at H4 HBK
   dsimp only at H4 HBK
   have V4 := ak H4
   clear H4 zH HE
   generalize az (r5 s).1 = n5 at Ue H5 H6
   generalize (r4 s).1 = L4 at V4 GK VC HGD HBK
   generalize (r6 s).1 = L6 at H6 V0 VB HBK
   generalize Mp : (r6 s).2 = q6 at H6 HDN
   obtain ⟨l6, U7⟩ := q6
   dsimp only at H6 HDN
   obtain ⟨M, hM⟩ : ∃ M : List S78, M = acc.map vc := ⟨_, rfl⟩
   have HM := ak hM
   have hml : M.length ≤ 255 := by rw [hM, List.length_map]; omega
   rw [← hM] at HA
   clear hM Mp hgo
   obtain ⟨Am, cm, rfl⟩ := Kd.R_slice HA.out
   have jc := HQ.out.c2
   rcases hcase with rfl | ⟨hm, rfl⟩
   rotate_left
   have aw : decide ((k : Int) < (n3 : Int)) = true := by simp; omega
   have Uf : k < n3 := by omega
   clear hkm hm
   rotate_left
   obtain rfl : k = n3 := by omega
   have aw : decide ((k : Int) < (k : Int)) = false := by simp
   clear hkm
   all_goals
    go_wp2_with (first
     | (go_at_call 66; refine (V4.out _ _ _ HQ.out).mono ?_; rintro e W1 ⟨u, rfl, Yn, iN, cj⟩; have je := ak iN; have eM := ak (HX.out.grown cj (fun e => HNE.out (Option.some.inj e))); have fQ := ak (HY.out.grown cj (fun e => vE.out (Option.some.inj e).symm)); have gj := ak (xw HA.out HQ.out (by decide) cj); have bR := ak (HB.out.grown cj HB.out.size (by intro k hk; cases hk; exact HGR.out)); obtain ⟨A4, c4, rfl, Z1, YC⟩ := Yn; have Y4 := ak YC; clear iN cj HQ HX HY HA HB jc V4 YC))
    go_loopw [10, 54] (fun _ i V => ∃ (j : Nat) (vs : Value), j ≤ L4.length ∧ i = .int .i64 j ∧ Aside0 (bC V g5 [.int .u32 (n1 : Int), .string aff, vs, .slice none 0 0, .slice Am M.length cm] 49) ∧ Aside0 (Kd.R (Kd.int .i64) 3 V bb (fun _ => True) vs (L4.take j)) ∧ Aside0 (Kd.R iZ 78 V bb (fun _ => True) (.slice Am M.length cm) M) ∧ Aside0 (Kd.F (Kd.int .u8) V (fun k => k = gB) A4 L4.length L4) ∧ Aside0 (Rq V gr (fun k => k = gB) (r4 s).2.1 (r4 s).2.2) ∧ Aside0 (bC V g2 gw 49) ∧ Aside0 (Below w.heap.size w V)) (fun _ i _ => L4.length - (intOf i).toNat)
    case atStart => exact ⟨0, _, by omega, rfl, fQ, ⟨Kd.R_nil _ _ _ _ _⟩, gj, Y4, je, eM, bR⟩
    case round =>
     clear fQ gj Y4 je eM bR aw
     obtain ⟨j, vs, hj, rfl, HY, HS, HA, HF, HQ, HX, HB⟩ := hrel
     obtain ⟨V, rfl⟩ : ∃ V : World, V = wr := ⟨_, rfl⟩
     have hjl : j ≤ 64 := by have := GK.out; omega
     by_cases hjn : j < L4.length
     ·have hjb : decide ((j : Int) < (L4.length : Int)) = true := by simp; omega
      obtain ⟨ad, eA, hx⟩ := Kd.at_int (Kd.F_now HF.out) j (by omega) (by omega)
      cases eA
      rw [Int.toNat_natCast] at hx
      have p1 : ((j : Int) < (L4.length : Int)) = True := eq_true (by omega)
      obtain ⟨z, hz⟩ : ∃ z : Nat, rd L4 j = (z : Int) := ⟨(rd L4 j).toNat, by have := (iA VC.out j).1; omega⟩
      have rG : z < 256 := by have := (iA VC.out j).2; omega
      rw [hz] at hx
      obtain ⟨L, hL⟩ : ∃ L : List Int, L = L4.take (j + 1) := ⟨_, rfl⟩
      have HLq := ak hL
      have HT := ak (show L = L4.take j ++ [(z : Int)] by rw [hL, List.take_add_one, List.getElem?_eq_getElem hjn, ← hz]; simp [rd, List.getD, hjn])
      clear hL hz
      have hlen : (L4.take j).length ≤ 64 := by have := GK.out; simp; omega
      have jc := HY.out.cell 2 _ rfl
      go_wp2_with (first
       | ((with_reducible refine cx (b := .append) (xs := #[.tmp 59, .tmp 62]) rfl ?_); at_builtin; refine Kd.R_append (Kd.int .i64) (w0 := V) bb rfl (.tmp 59) (.tmp 62) 46 3 (.int .i64 0) 8 rfl Tryz.underlying46 Bj rfl (by decide) (by omega) vs (L4.take j) (z : Int) [.int .i64 (z : Int)] (fun _ => True) (fun _ => False) rfl rfl rfl (fun _ hk => hk.elim) (fun _ _ => trivial) HS.out (Below.refl _ _) (HLE.out _ _ _ HQ.out) (by omega) ?_; intro v1 w1 fx aw cj j9; have fQ := ak (HY.out.grown cj (HY.out.ne_row HS.out (by decide))); have eM := ak (HX.out.grown cj (HX.out.ne_row HS.out (by decide))); have gj := ak (Kd.R_over HA.out HS.out (by decide) cj); have je := ak (AY HQ.out HS.out cj GN.out KH.out); have wV := ak (Kd.F_grown HF.out cj (fun k hk he => by subst hk; have := Kd.R_base HS.out _ he.symm; have := GN.out; omega)); rw [← HT.out] at fx; have lT := ak fx; have bR := ak (HB.out.trans (aw.mono HWB.out)); obtain ⟨A1, c1, rfl⟩ := Kd.R_slice fx; have iv := fQ.out.cell 2 _ rfl; have xJ := fQ.out.frozen 2; clear fx aw cj j9 jc hx HY HX HS HA HQ HF HB))
      have kp := ak (show bC (w1.setCell ⟨g5, 2, none⟩ (.slice A1 L.length c1)) g5 [.int .u32 (n1 : Int), .string aff, .slice A1 L.length c1, .slice none 0 0, .slice Am M.length cm] 49 from fQ.out.set 2 (.slice A1 L.length c1))
      have hgS := b8 w1 g5 2 (.slice A1 L.length c1)
      have jr := ak (je.out.grown hgS (fun k hk e => by have := Option.some.inj e; exact CY.out (hk.symm.trans this)) (fun e => vE.out (Option.some.inj e)))
      have xO := ak (Kd.F_grown wV.out hgS (fun k hk e => by have := Option.some.inj e; exact CY.out (hk.symm.trans this)))
      have iJ := ak (bS gj.out fQ.out (by decide) hgS)
      have oF := ak (bS lT.out fQ.out (by decide) hgS)
      clear hgS
      go_roundw
      case rel => exact ⟨j + 1, _, by omega, by go_num, kp, ⟨by rw [← HLq.out]; exact oF.out⟩, iJ, xO, jr, ⟨eM.out.far (p := ⟨g5, 2, none⟩) KD.out _⟩, ⟨Below.setCell bR.out (p := ⟨g5, 2, none⟩) mT.out _⟩⟩
      case measure => simp [intOf]; omega
     ·obtain rfl : j = L4.length := by omega
      have hjb : decide ((L4.length : Int) < (L4.length : Int)) = false := by simp
      rw [List.take_of_length_le (Nat.le_refl L4.length)] at HS
      obtain ⟨As, cs, rfl⟩ := Kd.R_slice HS.out
      have HS' := ak (Kd.R_mono (ok' := fun k => k < V.heap.size) (Kd.R_bound HS.out) (fun k hk => hk.2.2.1))
      obtain ⟨bf, hbf⟩ : ∃ bf, bf = V.heap.size := ⟨_, rfl⟩
      rw [← hbf] at HS'
      have HBF := ak (show bb ≤ bf by rw [hbf]; exact HLE.out _ _ _ HQ.out)
      have HBV := ak (show bf ≤ V.heap.size by omega)
      have HRB' := ak (show gr < bf by have := HQ.out.lt; omega)
      have HGBF := ak (show gB < bf by have := HQ.out.lt; have := HGBR.out; omega)
      clear HS hbf hjl
      go_wp2_with (first
       | (go_at_call 64; refine (H5.out _ _ _ HQ.out).mono ?_; rintro e W1 ⟨rfl, iN, cj⟩; have je := ak iN; have eM := ak (HX.out.grown cj (fun e => HNE.out (Option.some.inj e))); have fQ := ak (HY.out.grown cj (fun e => vE.out (Option.some.inj e).symm)); have gj := ak (xw HA.out HQ.out (by decide) cj); have lT := ak (xw HS'.out HQ.out (by decide) cj); have bR := ak (HB.out.grown cj HB.out.size (by intro k hk; cases hk; exact HGR.out)); have KL := ak (Nat.le_trans HBV.out cj.size); clear iN cj HQ HX HY HA HS' HB HBV HF)
       | (go_at_call 66; refine (H6.out _ _ _ je.out).mono ?_; rintro e W2 ⟨u, rfl, Ft, jk, dz⟩; have jr := ak jk; have iO := ak (eM.out.grown dz (fun e => HNE.out (Option.some.inj e))); have kp := ak (fQ.out.grown dz (fun e => vE.out (Option.some.inj e).symm)); have iJ := ak (xw gj.out je.out (by decide) dz); have oF := ak (xw lT.out je.out (by decide) dz); have dW := ak (bR.out.grown dz bR.out.size (by intro k hk; cases hk; exact HGR.out)); have KK := ak (Nat.le_trans KL.out dz.size); obtain ⟨A6, c6, rfl, Uy, YB⟩ := Ft; have YZ := ak YB; clear jk dz YB je eM fQ gj lT bR KL))
      go_loopw [12, 72] (fun _ i U => ∃ (j : Nat) (vf : Value), j ≤ L6.length ∧ i = .int .i64 j ∧ Aside0 (bC U g5 [.int .u32 (n1 : Int), .string aff, .slice As L4.length cs, vf, .slice Am M.length cm] 49) ∧ Aside0 (Kd.R (Kd.int .i64) 3 U bb (fun k => k < bf) (.slice As L4.length cs) L4) ∧ Aside0 (Kd.R (Kd.int .i64) 3 U bf (fun _ => True) vf (L6.take j)) ∧ Aside0 (Kd.R iZ 78 U bb (fun _ => True) (.slice Am M.length cm) M) ∧ Aside0 (Kd.F (Kd.int .u8) U (fun k => k = gB) A6 L6.length L6) ∧ Aside0 (Rq U gr (fun k => k = gB) l6 U7) ∧ Aside0 (bC U g2 gw 49) ∧ Aside0 (bf ≤ U.heap.size) ∧ Aside0 (Below w.heap.size w U)) (fun _ i _ => L6.length - (intOf i).toNat)
      case atStart => exact ⟨0, _, by omega, rfl, kp, oF, ⟨Kd.R_nil _ _ _ _ _⟩, iJ, YZ, jr, iO, KK, dW⟩
      case round =>
       clear kp oF iJ YZ jr iO KK dW
       obtain ⟨j, vf, hj, rfl, HY, HS, HR, HA, HF, HQ, HX, HBV, HB⟩ := hrel
       obtain ⟨U, rfl⟩ : ∃ U : World, U = wr := ⟨_, rfl⟩
       have hjl : j ≤ 255 := by have := V0.out; omega
       by_cases hjn : j < L6.length
       ·have hjb : decide ((j : Int) < (L6.length : Int)) = true := by simp; omega
        obtain ⟨ad, eA, hx⟩ := Kd.at_int (Kd.F_now HF.out) j (by omega) (by omega)
        cases eA
        rw [Int.toNat_natCast] at hx
        have p1 : ((j : Int) < (L6.length : Int)) = True := eq_true (by omega)
        obtain ⟨z, hz⟩ : ∃ z : Nat, rd L6 j = (z : Int) := ⟨(rd L6 j).toNat, by have := (iA VB.out j).1; omega⟩
        have rG : z < 256 := by have := (iA VB.out j).2; omega
        rw [hz] at hx
        obtain ⟨L, hL⟩ : ∃ L : List Int, L = L6.take (j + 1) := ⟨_, rfl⟩
        have HLq := ak hL
        have HT := ak (show L = L6.take j ++ [(z : Int)] by rw [hL, List.take_add_one, List.getElem?_eq_getElem hjn, ← hz]; simp [rd, List.getD, hjn])
        clear hL hz
        have hlen : (L6.take j).length ≤ 255 := by have := V0.out; simp; omega
        have xK := HY.out.cell 3 _ rfl
        go_wp2_with (first
         | ((with_reducible refine cx (b := .append) (xs := #[.tmp 77, .tmp 80]) rfl ?_); at_builtin; refine Kd.R_append (Kd.int .i64) (w0 := U) bf rfl (.tmp 77) (.tmp 80) 46 3 (.int .i64 0) 8 rfl Tryz.underlying46 Bj rfl (by decide) (by omega) vf (L6.take j) (z : Int) [.int .i64 (z : Int)] (fun _ => True) (fun _ => False) rfl rfl rfl (fun _ hk => hk.elim) (fun _ _ => trivial) HR.out (Below.refl _ _) HBV.out (by omega) ?_; intro v1 w1 fx aw cj j9; have fQ := ak (HY.out.grown cj (HY.out.ne_row HR.out (by decide))); have eM := ak (HX.out.grown cj (HX.out.ne_row HR.out (by decide))); have gj := ak (Kd.R_over HA.out HR.out (by decide) cj); have lT := ak (I5 HS.out (fun _ h => h) HR.out cj); have je := ak (AY HQ.out HR.out cj HGBF.out HRB'.out); have wV := ak (Kd.F_grown HF.out cj (fun k hk he => by subst hk; have := Kd.R_base HR.out _ he.symm; have := HGBF.out; omega)); rw [← HT.out] at fx; have ke := ak fx; have KL := ak (Nat.le_trans HBV.out aw.size); have bR := ak (HB.out.trans (aw.mono (Nat.le_trans HWB.out HBF.out))); obtain ⟨A1, c1, rfl⟩ := Kd.R_slice fx; have iv := fQ.out.cell 3 _ rfl; have xJ := fQ.out.frozen 3; clear fx aw cj j9 xK hx HY HX HS HR HA HQ HF HBV HB))
        have kp := ak (show bC (w1.setCell ⟨g5, 3, none⟩ (.slice A1 L.length c1)) g5 [.int .u32 (n1 : Int), .string aff, .slice As L4.length cs, .slice A1 L.length c1, .slice Am M.length cm] 49 from fQ.out.set 3 (.slice A1 L.length c1))
        have hgS := b8 w1 g5 3 (.slice A1 L.length c1)
        have jr := ak (je.out.grown hgS (fun k hk e => by have := Option.some.inj e; exact CY.out (hk.symm.trans this)) (fun e => vE.out (Option.some.inj e)))
        have xO := ak (Kd.F_grown wV.out hgS (fun k hk e => by have := Option.some.inj e; exact CY.out (hk.symm.trans this)))
        have iJ := ak (bS gj.out fQ.out (by decide) hgS)
        have oF := ak (bS lT.out fQ.out (by decide) hgS)
        have qz := ak (bS ke.out fQ.out (by decide) hgS)
        have KK := ak (Nat.le_trans KL.out hgS.size)
        clear hgS
        go_roundw
        case rel => exact ⟨j + 1, _, by omega, by go_num, kp, oF, ⟨by rw [← HLq.out]; exact qz.out⟩, iJ, xO, jr, ⟨eM.out.far (p := ⟨g5, 3, none⟩) KD.out _⟩, KK, ⟨Below.setCell bR.out (p := ⟨g5, 3, none⟩) mT.out _⟩⟩
        case measure => simp [intOf]; omega
       ·obtain rfl : j = L6.length := by omega
        have hjb : decide ((L6.length : Int) < (L6.length : Int)) = false := by simp
        rw [List.take_of_length_le (Nat.le_refl L6.length)] at HR
        obtain ⟨Af, cf, rfl⟩ := Kd.R_slice HR.out
        have jc := HQ.out.c2
        cases U7 with
        | true =>
         have HNO := ak (show cB s = false by rw [HOK.out, HDN.out]; rfl)
         go_wp2_with (first
                   | ((with_reducible refine af (N := 104) rfl ?_); refine dE rfl 49 #[] rfl gw (zq _) ?_)
                   | (refine ay rfl 49 (.tmp 2) (.tmp 104) rfl g2 gw rfl rfl 49 _ HX.out 5 (by kernel_rfl) rfl rfl (by intro u hu; simp [gw] at hu; rcases hu with rfl | rfl | rfl | rfl | rfl <;> rfl) ?_; intro W9 eP cI))
         exact bodyPost_ret (bT rfl _ _ g2 49 _ (0, 0) _ rfl eP Tryz.underlying49 rfl (by kernel_rfl)) rfl (zk rfl HNO.out (HB.out.grown cI HB.out.size (by intro k hk; cases hk; exact fR.out)))
        | false =>
         by_cases Mt : l6.length = 0
         ·have hd : ju s = true := by rw [HDN.out, Mt]; rfl
          have hg := HGD.out hd
          have hbk : cd s = ⟨(n1 : Int), aff, L4, L6, acc⟩ := by rw [HBK.out, hg.2]
          have hrr := HRR.out hd
          have hpi := HPI.out hd
          have hbo := HBO.out
          have hlf : (if false = true then (0 : Int) else (l6.length : Int)) = 0 := by rw [Mt]; rfl
          cases hrt : fl (cd s) with
          | false =>
           have HNO := ak (show cB s = false by rw [HOK.out, hrt, Bool.and_false, Bool.and_false])
           rw [hrt, hbk] at hrr
           have HRT : Aside0 (∀ (As Af Aa : Option Addr) (cs cf ca : Nat) (w : World)
            (h1 : Kd.C (Kd.int .i64) w As L4.length L4 ∧ L4.length ≤ cs) (h2 : Kd.C (Kd.int .i64) w Af L6.length L6 ∧ L6.length ≤ cf) (h3 : Kd.C iZ w Aa M.length M ∧ M.length ≤ ca),
            Calls Tryz.prog 68 #[.agg #[.int .u32 (n1 : Int), .string aff, .slice As L4.length cs, .slice Af L6.length cf, .slice Aa M.length ca]] w fun e w' => e = .returned (.bool false) ∧ Below w.heap.size w w') := ⟨Ba ⟨(n1 : Int), aff, L4, L6, acc⟩ false hrr M HM.out⟩
           clear hrr hpi hbo hbk hg hd hrt
           go_wp2_with (first
                       | (go_at_call 67; refine (lP _ HQ.out).mono ?_; rw [hlf]; rintro e W1 ⟨rfl, aw⟩; have eM := ak (HX.out.below aw); have fQ := ak (HY.out.below aw); have lT := ak (Kd.R_below HS.out aw); have ke := ak (Kd.R_below HR.out aw); have gj := ak (Kd.R_below HA.out aw); have bR := ak (HB.out.trans (aw.mono HB.out.size)); clear aw HX HY HS HR HA HB HQ HF jc)
                       | ((with_reducible refine af (N := 94) rfl ?_); refine bL (by rfl) ?_; refine a7 rfl 49 (.tmp 5) rfl g5 rfl _ _ _ fQ.out Tryz.underlying49 rfl 5 (by kernel_rfl) rfl ?_)
                       | (go_at_call 68; refine (HRT.out As Af Am cs cf cm _ (eI lT.out) (eI ke.out) (eI gj.out)).mono ?_; rintro e W2 ⟨rfl, aU⟩; have iO := ak (eM.out.below aU); have kp := ak (fQ.out.below aU); have oF := ak (Kd.R_below lT.out aU); have qz := ak (Kd.R_below ke.out aU); have iJ := ak (Kd.R_below gj.out aU); have dW := ak (bR.out.trans (aU.mono bR.out.size)); clear aU eM fQ lT ke gj bR)
                       | ((with_reducible refine af (N := 104) rfl ?_); refine dE rfl 49 #[] rfl gw (zq _) ?_)
                       | (refine ay rfl 49 (.tmp 2) (.tmp 104) rfl g2 gw rfl rfl 49 _ iO.out 5 (by kernel_rfl) rfl rfl (by intro u hu; simp [gw] at hu; rcases hu with rfl | rfl | rfl | rfl | rfl <;> rfl) ?_; intro W9 eP cI))
           exact bodyPost_ret (bT rfl _ _ g2 49 _ (0, 0) _ rfl eP Tryz.underlying49 rfl (by kernel_rfl)) rfl (zk rfl HNO.out (dW.out.grown cI dW.out.size (by intro k hk; cases hk; exact fR.out)))
          | true =>
           have hp := yX hrt
           have Of : (cd s).slots.length = 64 := by rw [hbk]; exact hg.1
           have Ci := hpi hrt
           rw [hrt, hbk] at hrr
           have HRT : Aside0 (∀ (As Af Aa : Option Addr) (cs cf ca : Nat) (w : World)
            (h1 : Kd.C (Kd.int .i64) w As L4.length L4 ∧ L4.length ≤ cs) (h2 : Kd.C (Kd.int .i64) w Af L6.length L6 ∧ L6.length ≤ cf) (h3 : Kd.C iZ w Aa M.length M ∧ M.length ≤ ca),
            Calls Tryz.prog 68 #[.agg #[.int .u32 (n1 : Int), .string aff, .slice As L4.length cs, .slice Af L6.length cf, .slice Aa M.length ca]] w fun e w' => e = .returned (.bool true) ∧ Below w.heap.size w w') := ⟨Ba ⟨(n1 : Int), aff, L4, L6, acc⟩ true hrr M HM.out⟩
           have HBE := ak hbk
           have HDT := ak (show cB s = decide (n0 = 66) by rw [HOK.out, hd, hrt, Bool.true_and, Bool.and_true])
           rw [hbk] at hp Of Ci hbo
           obtain ⟨tx, htx⟩ : ∃ tx, strOfNums (nO ⟨(n1 : Int), aff, L4, L6, acc⟩) = tx := ⟨_, rfl⟩
           rw [htx] at Ci
           have HPT : Aside0 (∀ (As Af Aa : Option Addr) (cs cf ca : Nat) (w : World)
            (h1 : Kd.C (Kd.int .i64) w As L4.length L4 ∧ L4.length ≤ cs) (h2 : Kd.C (Kd.int .i64) w Af L6.length L6 ∧ L6.length ≤ cf) (h3 : Kd.C iZ w Aa M.length M ∧ M.length ≤ ca),
            Calls Tryz.prog 69 #[.agg #[.int .u32 (n1 : Int), .string aff, .slice As L4.length cs, .slice Af L6.length cf, .slice Aa M.length ca]] w fun e w' => e = .returned (.string tx) ∧ Below w.heap.size w w') := ⟨Tq ⟨(n1 : Int), aff, L4, L6, acc⟩ hbo hp Of tx htx M HM.out⟩
           clear hrr hpi hbo hbk hg hd hrt hp Of htx
           by_cases pz : n0 = 66
           ·have xy := ak (show cB s = true by rw [HDT.out, pz]; rfl)
            have htx := Ci.2 pz
            subst htx
            have hne : (tx.toList == tx.toList) = true := beq_self_eq_true _
            have Od : (tx.toList != tx.toList) = false := by simp
            clear Ci pz
            go_wp2_with (first
                         | (go_at_call 67; refine (lP _ HQ.out).mono ?_; rw [hlf]; rintro e W1 ⟨rfl, aw⟩; have eM := ak (HX.out.below aw); have fQ := ak (HY.out.below aw); have lT := ak (Kd.R_below HS.out aw); have ke := ak (Kd.R_below HR.out aw); have gj := ak (Kd.R_below HA.out aw); have bR := ak (HB.out.trans (aw.mono HB.out.size)); clear aw HX HY HS HR HA HB HQ HF jc)
                         | ((with_reducible refine af (N := 94) rfl ?_); refine bL (by rfl) ?_; refine a7 rfl 49 (.tmp 5) rfl g5 rfl _ _ _ fQ.out Tryz.underlying49 rfl 5 (by kernel_rfl) rfl ?_)
                         | (go_at_call 68; refine (HRT.out As Af Am cs cf cm _ (eI lT.out) (eI ke.out) (eI gj.out)).mono ?_; rintro e W2 ⟨rfl, aU⟩; have iO := ak (eM.out.below aU); have kp := ak (fQ.out.below aU); have oF := ak (Kd.R_below lT.out aU); have qz := ak (Kd.R_below ke.out aU); have iJ := ak (Kd.R_below gj.out aU); have dW := ak (bR.out.trans (aU.mono bR.out.size)); clear aU eM fQ lT ke gj bR)
                         | ((with_reducible refine af (N := 99) rfl ?_); refine bL (by rfl) ?_; refine a7 rfl 49 (.tmp 5) rfl g5 rfl _ _ _ kp.out Tryz.underlying49 rfl 5 (by kernel_rfl) rfl ?_)
                         | (go_at_call 69; refine (HPT.out As Af Am cs cf cm _ (eI oF.out) (eI qz.out) (eI iJ.out)).mono ?_; rintro e W3 ⟨rfl, fy⟩; have kV := ak (iO.out.below fy); have sk := ak (kp.out.below fy); have DY := ak (Kd.R_below oF.out fy); have vt := ak (Kd.R_below qz.out fy); have ur := ak (Kd.R_below iJ.out fy); have ep := ak (dW.out.trans (fy.mono dW.out.size)); clear fy iO kp oF qz iJ dW)
                         | ((with_reducible refine af (N := 105) rfl ?_); refine a7 rfl 49 (.tmp 5) rfl g5 rfl _ _ _ sk.out Tryz.underlying49 rfl 5 (by kernel_rfl) rfl ?_)
                         | (refine ay rfl 49 (.tmp 2) (.tmp 105) rfl g2 [.int .u32 (n1 : Int), .string aff, .slice As L4.length cs, .slice Af L6.length cf, .slice Am M.length cm] rfl rfl 49 _ kV.out 5 (by kernel_rfl) rfl rfl (by intro u hu; simp at hu; rcases hu with rfl | rfl | rfl | rfl | rfl <;> rfl) ?_; intro W9 eP cI))
            refine bodyPost_ret (bT rfl _ _ g2 49 _ (0, 0) _ rfl eP Tryz.underlying49 rfl (by kernel_rfl)) rfl (Oz rfl xy.out HBE.out HM.out HWB.out HBF.out (bS DY.out kV.out (by decide) cI) (bS vt.out kV.out (by decide) cI) (bS ur.out kV.out (by decide) cI) (ep.out.grown cI ep.out.size (by intro k hk; cases hk; exact fR.out)))
           ·have HNO := ak (show cB s = false by rw [HDT.out, decide_eq_false pz])
            have hns : tx ≠ s := fun e => pz (Ci.1 e)
            have hne : (tx.toList == s.toList) = false := by rw [beq_eq_false_iff_ne]; exact fun e => hns (sL e)
            have Od : (tx.toList != s.toList) = true := by rw [bne, hne]; rfl
            have Zw : ¬ (tx.toList = s.toList) := fun e => hns (sL e)
            clear Ci pz hns
            go_wp2_with (first
                         | (go_at_call 67; refine (lP _ HQ.out).mono ?_; rw [hlf]; rintro e W1 ⟨rfl, aw⟩; have eM := ak (HX.out.below aw); have fQ := ak (HY.out.below aw); have lT := ak (Kd.R_below HS.out aw); have ke := ak (Kd.R_below HR.out aw); have gj := ak (Kd.R_below HA.out aw); have bR := ak (HB.out.trans (aw.mono HB.out.size)); clear aw HX HY HS HR HA HB HQ HF jc)
                         | ((with_reducible refine af (N := 94) rfl ?_); refine bL (by rfl) ?_; refine a7 rfl 49 (.tmp 5) rfl g5 rfl _ _ _ fQ.out Tryz.underlying49 rfl 5 (by kernel_rfl) rfl ?_)
                         | (go_at_call 68; refine (HRT.out As Af Am cs cf cm _ (eI lT.out) (eI ke.out) (eI gj.out)).mono ?_; rintro e W2 ⟨rfl, aU⟩; have iO := ak (eM.out.below aU); have kp := ak (fQ.out.below aU); have oF := ak (Kd.R_below lT.out aU); have qz := ak (Kd.R_below ke.out aU); have iJ := ak (Kd.R_below gj.out aU); have dW := ak (bR.out.trans (aU.mono bR.out.size)); clear aU eM fQ lT ke gj bR)
                         | ((with_reducible refine af (N := 99) rfl ?_); refine bL (by rfl) ?_; refine a7 rfl 49 (.tmp 5) rfl g5 rfl _ _ _ kp.out Tryz.underlying49 rfl 5 (by kernel_rfl) rfl ?_)
                         | (go_at_call 69; refine (HPT.out As Af Am cs cf cm _ (eI oF.out) (eI qz.out) (eI iJ.out)).mono ?_; rintro e W3 ⟨rfl, fy⟩; have kV := ak (iO.out.below fy); have sk := ak (kp.out.below fy); have DY := ak (Kd.R_below oF.out fy); have vt := ak (Kd.R_below qz.out fy); have ur := ak (Kd.R_below iJ.out fy); have ep := ak (dW.out.trans (fy.mono dW.out.size)); clear fy iO kp oF qz iJ dW)
                         | ((with_reducible refine af (N := 104) rfl ?_); refine dE rfl 49 #[] rfl gw (zq _) ?_)
                         | (refine ay rfl 49 (.tmp 2) (.tmp 104) rfl g2 gw rfl rfl 49 _ kV.out 5 (by kernel_rfl) rfl rfl (by intro u hu; simp [gw] at hu; rcases hu with rfl | rfl | rfl | rfl | rfl <;> rfl) ?_; intro W9 eP cI))
            exact bodyPost_ret (bT rfl _ _ g2 49 _ (0, 0) _ rfl eP Tryz.underlying49 rfl (by kernel_rfl)) rfl (zk rfl HNO.out (ep.out.grown cI ep.out.size (by intro k hk; cases hk; exact fR.out)))
         ·have HNO := ak (show cB s = false by rw [HOK.out, HDN.out, show (((l6.length : Nat) : Int) == 0) = false by rw [beq_eq_false_iff_ne]; omega]; rfl)
          have hlf : (if false = true then (0 : Int) else (l6.length : Int)) = (l6.length : Int) := rfl
          have iI : decide ((l6.length : Int) > 0) = true := by simp; omega
          have aw : decide ((0 : Int) < (l6.length : Int)) = true := by simp; omega
          have aU : decide (0 < l6.length) = true := by simp; omega
          go_wp2_with (first
                     | (go_at_call 67; refine (lP _ HQ.out).mono ?_; rw [hlf]; rintro e W1 ⟨rfl, aw⟩; have eM := ak (HX.out.below aw); have fQ := ak (HY.out.below aw); have lT := ak (Kd.R_below HS.out aw); have ke := ak (Kd.R_below HR.out aw); have gj := ak (Kd.R_below HA.out aw); have bR := ak (HB.out.trans (aw.mono HB.out.size)); clear aw HX HY HS HR HA HB HQ HF jc)
                     | ((with_reducible refine af (N := 104) rfl ?_); refine dE rfl 49 #[] rfl gw (zq _) ?_)
                     | (refine ay rfl 49 (.tmp 2) (.tmp 104) rfl g2 gw rfl rfl 49 _ eM.out 5 (by kernel_rfl) rfl rfl (by intro u hu; simp [gw] at hu; rcases hu with rfl | rfl | rfl | rfl | rfl <;> rfl) ?_; intro W9 eP cI))
          exact bodyPost_ret (bT rfl _ _ g2 49 _ (0, 0) _ rfl eP Tryz.underlying49 rfl (by kernel_rfl)) rfl (zk rfl HNO.out (bR.out.grown cI bR.out.size (by intro k hk; cases hk; exact fR.out)))
end
section
section
variable {g : Nat} {ok : Nat → Prop} {v : Value} {W : World}
theorem WC (s : ByteArray) (h : Rd W g ok v (r0 s).2.1 (r0 s).2.2) : Calls Tryz.prog 84 #[.pointer (some ⟨g, 0, none⟩), .int .i64 2] W fun e W' => ∃ v', e = .returned (.int .u64 (az (c1 s).1 : Nat)) ∧ Rd W' g ok v' (c1 s).2.1 (c1 s).2.2 ∧ W.grownBy W' (some g) := AI 2 (by omega) (by omega) (pX s) W h
theorem Wy {l : List Int} (hl : dC l) (h : Rd W g ok v l false) : Calls Tryz.prog 84 #[.pointer (some ⟨g, 0, none⟩), .int .i64 4] W fun e W' => ∃ v', e = .returned (.int .u64 (az (gT l).1 : Nat)) ∧ Rd W' g ok v' (gT l).2.1 (gT l).2.2 ∧ W.grownBy W' (some g) := AI 4 (by omega) (by omega) hl W h
theorem Wz {l : List Int} (hl : dC l) (h : Rd W g ok v (gT l).2.1 (gT l).2.2) : Calls Tryz.prog 84 #[.pointer (some ⟨g, 0, none⟩), .int .i64 2] W fun e W' => ∃ v', e = .returned (.int .u64 (az (iw l).1 : Nat)) ∧ Rd W' g ok v' (iw l).2.1 (iw l).2.2 ∧ W.grownBy W' (some g) := AI 2 (by omega) (by omega) (qL hl) W h
theorem WB (s : ByteArray) (h : Rd W g ok v (rc s).2.1 (rc s).2.2) : Calls Tryz.prog 85 #[.pointer (some ⟨g, 0, none⟩)] W fun e W' => e = .returned (.bool (mI s)) ∧ Below W.heap.size W W' := Aq W h
end
def mh : List Value := [.slice none 0 0]
theorem OH (a : Int) : Tryz.prog.built 145 [(0, .int .u32 a)] = some [Value.int .u32 a, .int .i64 0].toArray := by kernel_rfl
theorem IW : ∀ a : Act, Tryz.prog.built 99 ((#[] : Array (Nat × Operand)).map fun (i, x) => (i, a.eval x)).toList = some mh.toArray := fun _ => by kernel_rfl
def wR (s : ByteArray) (w : World) (e : Ending) (w' : World) : Prop := ∃ v, e = .returned (.tuple #[.agg #[v], .int .i64 (if eK s = true then 0 else 3)]) ∧ Kd.R sx 145 w' w.heap.size (fun _ => True) v (if eK s = true then (rc s).1 else []) ∧ Below w.heap.size w w'
theorem T8 {s : ByteArray} {w w' : World} {e : Ending} (he : e = .returned (.tuple #[.agg mh.toArray, .int .i64 3])) (h : eK s = false) (hb : Below w.heap.size w w') : wR s w e w' := by
 unfold wR
 subst he
 rw [h]
 exact ⟨_, rfl, Kd.R_nil _ _ _ _ _, hb⟩
theorem Rs {s : ByteArray} {w w' : World} {e : Ending} {bb : Nat} {v : Value} {M : List Cn} (hen : e = .returned (.tuple #[.agg #[v], .int .i64 0])) (h : eK s = true) (hM : M = (rc s).1) (h1 : w.heap.size ≤ bb)
  (ha : Kd.R sx 145 w' bb (fun _ => True) v M) (hb : Below w.heap.size w w') : wR s w e w' := by
 unfold wR
 subst hen
 subst hM
 rw [h]
 exact ⟨_, rfl, Kd.R_lower ha h1, hb⟩
theorem Rd.blk {W W1 : World} {g : Nat} {ok : Nat → Prop} {v : Value} {l : List Int} {bad : Bool} {bb x : Nat} (h : Rd W g ok v l bad) (hg : W.grownBy W1 (some x)) (ho : ∀ k, ok k → k < bb) (h1 : g < bb) (h2 : bb ≤ x) : Rd W1 g ok v l bad :=
 h.grown hg (fun k hk e => by have := ho k hk; have := Option.some.inj e; omega) (fun e => by have := Option.some.inj e; omega)
theorem Rd.row {α : Type} {d : Kd α} {e : Nat} {W W1 : World} {g : Nat} {ok zy : Nat → Prop} {v u : Value} {l : List Int} {xs : List α} {bad : Bool} {bb : Nat} (h : Rd W g ok v l bad) (hr : d.R e W bb zy u xs) (hg : W.grownBy W1 u.ownBlock) (ho : ∀ k, ok k → k < bb) (h1 : g < bb) : Rd W1 g ok v l bad :=
 h.grown hg (fun k hk e => by have := ho k hk; have := Kd.R_base hr _ e.symm; omega) (fun e => by have := Kd.R_base hr _ e.symm; omega)
theorem bC.blk {W W1 : World} {g t x bb : Nat} {cs : List Value} (h : bC W g cs t) (hg : W.grownBy W1 (some x)) (h1 : g < bb) (h2 : bb ≤ x) : bC W1 g cs t := h.grown hg (fun e => by have := Option.some.inj e; omega)
theorem bC.row {α : Type} {d : Kd α} {e : Nat} {W W1 : World} {g t bb : Nat} {cs : List Value} {ok : Nat → Prop} {u : Value} {xs : List α} (h : bC W g cs t) (hr : d.R e W bb ok u xs) (hg : W.grownBy W1 u.ownBlock) (h1 : g < bb) : bC W1 g cs t := h.grown hg (fun e => by have := Kd.R_base hr _ e.symm; omega)
set_option maxHeartbeats 8000000 in
set_option maxRecDepth 100000 in
theorem Mo (s : ByteArray) (hs : s.size ≤ 1000000) (w : World) :
  Calls Tryz.prog 59 #[.string s] w (wR s w) := by
 have tV := we s
 have kk := E7 s
 have HN := ak (vy s hs)
 have vr := ak (El s)
 have HOK : Aside0 (eK s = (mI s && (decide (az (r0 s).1 = 72) && kI (rc s).1))) := ⟨rfl⟩
 have HRC : Aside0 (dI (az (c1 s).1) (c1 s).2.1 (c1 s).2.2 = rc s) := ⟨rfl⟩
 have HCO := ak (Pz s)
 have HCL := ak (Lv s)
 have H0 := ak (@JN · · · · s)
 have H1 := ak (@WC · · · · s)
 have HD := ak (@WB · · · · s)
 generalize az (r0 s).1 = n0 at tV H0 HOK
 generalize hp : c1 s = p at H1 HRC kk vr
 obtain ⟨Lp, lp, badp⟩ := p
 dsimp only at H1 HRC kk vr
 generalize az Lp = n1 at H1 HRC kk
 have kb := fun (w : World) => Lib.run_convert_string_bytes (P := Tryz.prog) w 9 61 5 s Tryz.underlying9 Tryz.underlying61 Tryz.underlying5
 clear hp
 go_enter Tryz.func59, Tryz.ntmps59
 go_wp2_with (first
  | (refine aE (some 2) rfl rfl 99 rfl mh (fun _ => by kernel_rfl) ?_; intro g2 W1 dz cP aw; have eM := ak cP; have bR := ak aw; have fR := ak dz; clear cP aw dz)
  | (refine aE (some 4) rfl rfl 99 rfl mh (fun _ => by kernel_rfl) ?_; intro g4 W2 cQ tY aU; have kp := ak tY; have iO := ak (eM.out.below aU); have jf := ak (show w.heap.size ≤ g4 by have := bR.out.size; omega); have ab6 := ak (show g2 ≠ g4 by have := eM.out.lt; omega); have dW := ak (bR.out.trans (aU.mono bR.out.size)); clear tY aU cQ eM bR)
  | (go_at_call 83; refine (HN.out _).mono ?_; rintro e W3 ⟨gr, v2, rfl, jk, hgr, aU⟩; have HRB := ak jk.box.lt; obtain ⟨okp, hokp⟩ : ∃ okp : Nat → Prop, okp = (fun k => (W2.heap.size < k ∧ k ≠ gr) ∧ k < W3.heap.size) := ⟨_, rfl⟩; rw [← hokp] at jk; have wT := ak jk; have kV := ak (iO.out.below aU); have sk := ak (kp.out.below aU); have ep := ak (dW.out.trans (aU.mono dW.out.size)); have HGR := ak (show w.heap.size ≤ gr by have := dW.out.size; omega); have KC := ak (show g2 ≠ gr by have := iO.out.lt; omega); have GD := ak (show g4 ≠ gr by have := kp.out.lt; omega); have ab4 := ak (show ∀ k, okp k → some k ≠ some g4 from fun k hk e => by rw [hokp] at hk; have := kp.out.lt; have := Option.some.inj e; omega); have HOKB := ak (show ∀ k, okp k → k < W3.heap.size from fun k hk => by rw [hokp] at hk; exact hk.2); have HXB := ak kV.out.lt; have HYB := ak sk.out.lt; have VI := ak (Nat.le_refl W3.heap.size); have HWB := ak ep.out.size; clear hokp; generalize hbb : W3.heap.size = bb at HOKB HRB HXB HYB VI HWB; clear jk hgr aU HN iO kp dW)
  | (go_at_call 84; refine (H0.out _ _ _ _ wT.out).mono ?_; rintro e W4 ⟨v4, rfl, yo, cQ⟩; have je := ak yo; have nT := ak (kV.out.grown cQ (fun e => KC.out (Option.some.inj e))); have zT := ak (sk.out.grown cQ (fun e => GD.out (Option.some.inj e))); have iQ := ak (ep.out.grown cQ ep.out.size (by intro k hk; cases hk; exact HGR.out)); have VH := ak (show bb ≤ W4.heap.size by have := cQ.size; omega); clear yo cQ wT kV sk ep VI hbb)
  | (go_at_call 84; refine (H1.out _ _ _ _ je.out).mono ?_; rintro e W5 ⟨v5, rfl, yn, dH⟩; have jr := ak yn; have nJ := ak (nT.out.grown dH (fun e => KC.out (Option.some.inj e))); have wS := ak (zT.out.grown dH (fun e => GD.out (Option.some.inj e))); have lK := ak (iQ.out.grown dH iQ.out.size (by intro k hk; cases hk; exact HGR.out)); have VG := ak (Nat.le_trans VH.out dH.size); clear yn dH je nT zT iQ VH))
 clear H0 H1
 go_loopw [7, 8] (fun nv _ W => ∃ (m : Nat) (l2 : List Int) (fC : Bool) (acc : List Cn) (va v2 : Value), m + acc.length = n1 ∧ nv = .int .u64 ((m : Nat) : Int) ∧ Aside0 (bC W g4 [va] 99) ∧ Aside0 (Kd.R sx 145 W bb (fun _ => True) va acc) ∧ Aside0 (Rd W gr okp v2 l2 fC) ∧ Aside0 (bC W g2 mh 99) ∧ Aside0 (dC l2) ∧ Aside0 (Below w.heap.size w W) ∧ Aside0 (bb ≤ W.heap.size) ∧ Aside0 (rc s = (acc ++ (dI m l2 fC).1, (dI m l2 fC).2))) (fun nv _ _ => (intOf nv).toNat)
 case atStart => exact ⟨n1, lp, badp, [], _, v5, by simp, rfl, wS, ⟨Kd.R_nil _ _ _ _ _⟩, jr, nJ, vr, lK, VG, ⟨by rw [HRC.out, List.nil_append]⟩⟩
 case round =>
  clear wS jr nJ vr lK VG HRC
  obtain ⟨m, l2, fC, acc, va, v2, hm, rfl, HY, HA, HQ, HX, HU, HB, HS, HE⟩ := hrel
  obtain ⟨W, rfl⟩ : ∃ W : World, W = wr := ⟨_, rfl⟩
  obtain ⟨Ao, co, rfl⟩ := Kd.R_slice HA.out
  by_cases hgo : 0 < m ∧ fC = false
  ·obtain ⟨Ms, rfl⟩ := hgo
   obtain ⟨m, rfl⟩ : ∃ q, m = q + 1 := ⟨m - 1, by omega⟩
   have hgt : decide (((m + 1 : Nat) : Int) > 0) = true := by rw [decide_eq_true_eq]; omega
   have Uj : decide ((0 : Int) < ((m + 1 : Nat) : Int)) = true := by rw [decide_eq_true_eq]; omega
   have pM := ak (show rc s = (acc ++ (oU l2 :: (dI m (iw l2).2.1 (iw l2).2.2).1), (dI m (iw l2).2.1 (iw l2).2.2).2) from HE.out)
   have nU := ak (fun (W : World) (v : Value) (h : Rd W gr okp v l2 false) => Wy HU.out h)
   have pL := ak (fun (W : World) (v : Value) (h : Rd W gr okp v (gT l2).2.1 (gT l2).2.2) => Wz HU.out h)
   have nK := ak (yV HU.out)
   have Br : az (gT l2).1 < 4294967296 := Cf HU.out false
   have Bs : az (iw l2).1 < 65536 := y4 (qL HU.out) _
   have HAT : Aside0 (oU l2 = ⟨((az (gT l2).1 : Nat) : Int), ((az (iw l2).1 : Nat) : Int)⟩) := ⟨rfl⟩
   generalize oU l2 = U9 at pM HAT
   generalize iw l2 = q2 at pM pL nK HAT Bs
   generalize gT l2 = q0 at nU pL HAT Br
   obtain ⟨b0, l4, d4⟩ := q0
   obtain ⟨b1, l5, d5⟩ := q2
   dsimp only at nU pL nK HAT Br Bs
   generalize az b0 = x0 at nU HAT Br
   generalize az b1 = x1 at pL HAT Bs
   obtain rfl := HAT.out
   obtain ⟨L, hL⟩ : ∃ L : List Cn, L = acc ++ [(⟨(x0 : Int), (x1 : Int)⟩ : Cn)] := ⟨_, rfl⟩
   have HL := ak hL
   have hac : acc.length ≤ 65535 := by omega
   clear HU HE hL Ms
   go_wp2_with (first
    | (go_at_call 95; refine (lG _ HQ.out).mono ?_; rintro e W1 ⟨rfl, aw⟩; have je := ak (HQ.out.below aw); have fQ := ak (HY.out.below aw); have eM := ak (HX.out.below aw); have gj := ak (Kd.R_below HA.out aw); have lT := ak (Nat.le_trans HS.out aw.size); have bR := ak (HB.out.trans (aw.mono HB.out.size)); clear aw HQ HY HX HA HS HB)
    | (go_at_call 84; refine (nU.out _ _ je.out).mono ?_; rintro e W2 ⟨v3, rfl, jk, dz⟩; have jr := ak jk; have kp := ak (fQ.out.grown dz (fun e => GD.out (Option.some.inj e))); have iO := ak (eM.out.grown dz (fun e => KC.out (Option.some.inj e))); have iJ := ak (th gj.out dz HRB.out); have oF := ak (Nat.le_trans lT.out dz.size); have dW := ak (bR.out.grown dz bR.out.size (by intro k hk; cases hk; exact HGR.out)); clear jk dz je fQ eM gj lT bR)
    | ((with_reducible refine af (N := 28) rfl ?_); refine dh rfl 145 #[(0, .tmp 27)] rfl [(0, .int .u32 (x0 : Int))] (by simp only [List.map_toArray, List.map_cons, List.map_nil]; rfl) [Value.int .u32 (x0 : Int), .int .i64 0] (OH _) ?_)
    | (refine aE (some 8) rfl rfl 145 rfl [.int .u32 0, .int .i64 0] (fun _ => by kernel_rfl) ?_; intro ga W3 hga Ir fy; have HGA := ak (show bb ≤ ga from Nat.le_trans oF.out hga); have Gy := ak Ir; have kN := ak (jr.out.below fy); have sk := ak (kp.out.below fy); have kV := ak (iO.out.below fy); have ur := ak (Kd.R_below (Kd.R_mono (ok' := fun k => k ≠ ga) (Kd.R_bound iJ.out) (fun k hk => by have := hk.2.2.1; omega)) fy); have DY := ak (Nat.le_trans oF.out fy.size); have ep := ak (dW.out.trans (fy.mono dW.out.size)); clear Ir fy hga jr kp iO iJ oF dW)
    | (refine ay rfl 145 (.tmp 8) (.tmp 28) rfl ga [.int .u32 (x0 : Int), .int .i64 0] rfl rfl 145 _ Gy.out 2 (by kernel_rfl) rfl rfl (by intro u hu; simp at hu; rcases hu with rfl | rfl <;> rfl) ?_; intro W4 Fq cQ; have DV := ak Fq; have vu := ak (kN.out.blk cQ HOKB.out HRB.out HGA.out); have zT := ak (sk.out.blk cQ HYB.out HGA.out); have nT := ak (kV.out.blk cQ HXB.out HGA.out); have pO := ak (Kd.R_grown ur.out cQ (fun k hk e => hk (Option.some.inj e))); have M6 := ak (Nat.le_trans DY.out cQ.size); have iQ := ak (ep.out.grown cQ ep.out.size (by intro k hk; cases hk; exact Nat.le_trans HWB.out HGA.out)); clear Fq cQ Gy kN sk kV ur DY ep)
    | (go_at_call 84; refine (pL.out _ _ vu.out).mono ?_; rintro e W5 ⟨v4, rfl, yn, dH⟩; have yM := ak yn; have wS := ak (zT.out.grown dH (fun e => GD.out (Option.some.inj e))); have nJ := ak (nT.out.grown dH (fun e => KC.out (Option.some.inj e))); have Y6 := ak (th pO.out dH HRB.out); have BW := ak (DV.out.grown dH (fun e => by have := HGA.out; have := HRB.out; have := Option.some.inj e; omega)); have M5 := ak (Nat.le_trans M6.out dH.size); have lK := ak (iQ.out.grown dH iQ.out.size (by intro k hk; cases hk; exact HGR.out)); have Up := BW.out.frozen 1; have BC := BW.out.cell 1 _ rfl; have hcy := (show bC (W5.setCell ⟨ga, 1, none⟩ (.int .i64 (x1 : Int))) g4 _ _ from wS.out.far (p := ⟨ga, 1, none⟩) (show g4 ≠ ga by have := HYB.out; have := HGA.out; omega) _).cell 0 _ rfl; clear yn dH vu zT nT pO M6 iQ DV)
    | (generalize FP : W5.setCell ⟨ga, 1, none⟩ (.int .i64 (x1 : Int)) = W6 at hcy ⊢; have FO : bC W6 ga [.int .u32 (x0 : Int), .int .i64 (x1 : Int)] 145 := (by rw [← FP]; exact BW.out.set 1 (.int .i64 (x1 : Int))); have hgS : W5.grownBy W6 (some ga) := (by rw [← FP]; exact b8 W5 ga 1 (.int .i64 (x1 : Int))); refine a7 rfl 145 (.tmp 8) rfl ga rfl _ _ _ FO Tryz.underlying145 rfl 2 (by kernel_rfl) rfl ?_; have M9 := ak (yM.out.blk hgS HOKB.out HRB.out HGA.out); have DW := ak (wS.out.blk hgS HYB.out HGA.out); have sI := ak (nJ.out.blk hgS HXB.out HGA.out); have B0 := ak (Kd.R_grown Y6.out hgS (fun k hk e => hk (Option.some.inj e))); have HLT := FO.lt; have VK := ak (Nat.le_trans M5.out hgS.size); have nM := ak (lK.out.grown hgS lK.out.size (by intro k hk; cases hk; exact Nat.le_trans HWB.out HGA.out)); clear hgS Up BC FP FO hcy yM wS nJ Y6 M5 lK BW)
    | ((with_reducible refine cx (b := .append) (xs := #[.tmp 34, .tmp 36]) rfl ?_); at_builtin; refine Kd.R_append sx (w0 := W6) bb rfl (.tmp 34) (.tmp 36) 97 145 (.agg #[.int .u32 0, .int .i64 0]) 16 rfl Tryz.underlying97 Rm rfl (by decide) (by omega) _ acc ⟨(x0 : Int), (x1 : Int)⟩ [.int .u32 (x0 : Int), .int .i64 (x1 : Int)] (fun k => k ≠ ga) (fun _ => False) rfl rfl (N6 _ _ _ _) (fun _ h => h.elim) (fun k hk => by omega) B0.out (Below.refl _ _) VK.out (by omega) ?_; intro v7 w7 qF ov dq Ak; rw [← HL.out] at qF; have QB := ak (M9.out.row B0.out dq HOKB.out HRB.out); have yK := ak (DW.out.row B0.out dq HYB.out); have uj := ak (sI.out.row B0.out dq HXB.out); have wW := ak (Kd.R_mono (ok' := fun _ => True) qF (fun _ _ => trivial)); have HS7 := ak (Nat.le_trans VK.out ov.size); have mU := ak (nM.out.trans (ov.mono HWB.out)); obtain ⟨A7, c7, rfl⟩ := Kd.R_slice qF; have Yv := yK.out.frozen 0; have IA := yK.out.cell 0 _ rfl; clear qF ov dq Ak M9 DW sI B0 VK nM))
   have xM := ak (show bC (w7.setCell ⟨g4, 0, none⟩ (.slice A7 L.length c7)) g4 [.slice A7 L.length c7] 99 from yK.out.set 0 (.slice A7 L.length c7))
   have hgS := b8 w7 g4 0 (.slice A7 L.length c7)
   have Jb := ak (QB.out.grown hgS (fun k hk => ab4.out k hk) (fun e => GD.out (Option.some.inj e).symm))
   have We := ak (th wW.out hgS HYB.out)
   have mu := ak (uj.out.grown hgS (fun e => ab6.out (Option.some.inj e)))
   have VJ := ak (Nat.le_trans HS7.out hgS.size)
   have jN := ak (mU.out.grown hgS mU.out.size (by intro k hk; cases hk; exact jf.out))
   clear hgS
   go_roundw
   case rel => exact ⟨m, l5, d5, L, _, v4, by rw [HL.out, List.length_append, List.length_singleton]; omega, by go_num, xM, We, Jb, mu, nK, jN, VJ, ⟨by rw [pM.out, HL.out]; simp⟩⟩
   case measure => simp [intOf]
  ·have hEx : rc s = (acc, l2, fC) ∧ (m = 0 ∨ (0 < m ∧ fC = true)) := by
    rcases Nat.eq_zero_or_pos m with rfl | hm
    ·exact ⟨by rw [HE.out]; simp [dI], .inl rfl⟩
    ·obtain ⟨m, rfl⟩ : ∃ q, m = q + 1 := ⟨m - 1, by omega⟩
     have hbad : fC = true := by
      cases fC with
      | true => rfl
      | false => exact absurd ⟨hm, rfl⟩ hgo
     subst hbad
     exact ⟨by rw [HE.out]; simp [dI], .inr ⟨hm, rfl⟩⟩
   obtain ⟨zH, hcase⟩ := hEx
   have HMR := ak (show acc = (rc s).1 by rw [zH])
   have HRT := ak (J1 _ HCO.out HCL.out)
   rw [← HMR.out] at HRT HOK
   have hD := (@HD.out)
   rw [zH] at hD
   dsimp only at hD
   have HD' := ak hD
   clear hD zH HE hgo HD
   generalize kI acc = rt at HRT HOK
   generalize mI s = bd at HD' HOK
   obtain ⟨Gk, h72⟩ : ∃ Gk, ((n0 : Int) != 72) = Gk := ⟨_, rfl⟩
   have xy := ak (show eK s = (bd && (!Gk && rt)) by
    rw [HOK.out, ← h72]
    congr 1
    congr 1
    rw [Bool.eq_iff_iff]; simp; omega)
   have hcs : (bd = true ∧ Gk = false ∧ rt = true ∧ eK s = true) ∨ (eK s = false ∧ (bd = false ∨ (bd = true ∧ Gk = true) ∨ (bd = true ∧ Gk = false ∧ rt = false))) := by
    rw [xy.out]
    cases bd <;> cases Gk <;> cases rt <;> simp
   clear HOK xy
   rcases hcase with rfl | ⟨Ms, rfl⟩
   rotate_left
   obtain ⟨m, rfl⟩ : ∃ q, m = q + 1 := ⟨m - 1, by omega⟩
   have hgt : decide (((m + 1 : Nat) : Int) > 0) = true := by rw [decide_eq_true_eq]; omega
   have Uj : decide ((0 : Int) < ((m + 1 : Nat) : Int)) = true := by rw [decide_eq_true_eq]; omega
   clear hm Ms
   rotate_left
   have hgt : decide (((0 : Nat) : Int) > 0) = false := by decide
   have Uj : decide ((0 : Int) < ((0 : Nat) : Int)) = false := by decide
   clear hm
   all_goals
    rcases hcs with ⟨rfl, rfl, rfl, hok⟩ | ⟨hno, hcs⟩
    ·have ab5 := ak hok
     clear hok
     go_wp2_with (first
      | (go_at_call 95; refine (lG _ HQ.out).mono ?_; rintro e W1 ⟨rfl, aw⟩; replace HQ := ak (HQ.out.below aw); replace HY := ak (HY.out.below aw); replace HX := ak (HX.out.below aw); replace HA := ak (Kd.R_below HA.out aw); replace HB := ak (HB.out.trans (aw.mono HB.out.size)); clear aw)
      | (go_at_call 85; refine (HD'.out _ _ _ _ HQ.out).mono ?_; rintro e W2 ⟨rfl, aw⟩; replace HY := ak (HY.out.below aw); replace HX := ak (HX.out.below aw); replace HA := ak (Kd.R_below HA.out aw); replace HB := ak (HB.out.trans (aw.mono HB.out.size)); clear aw)
      | ((with_reducible refine af (N := 47) rfl ?_); refine bL (by rfl) ?_; refine a7 rfl 99 (.tmp 4) rfl g4 rfl _ _ _ HY.out Tryz.underlying99 rfl 1 (by kernel_rfl) rfl ?_)
      | (go_at_call 96; refine (HRT.out Ao co _ (eI HA.out).1 (eI HA.out).2).mono ?_; rintro e W3 ⟨rfl, aw⟩; replace HY := ak (HY.out.below aw); replace HX := ak (HX.out.below aw); replace HA := ak (Kd.R_below HA.out aw); replace HB := ak (HB.out.trans (aw.mono HB.out.size)); clear aw)
      | ((with_reducible refine af (N := 51) rfl ?_); refine dE rfl 99 #[] rfl mh (IW _) ?_)
      | (refine ay rfl 99 (.tmp 2) (.tmp 51) rfl g2 mh rfl rfl 99 _ HX.out 1 (by kernel_rfl) rfl rfl (by intro u hu; simp [mh] at hu; subst hu; rfl) ?_; intro W9 eP cI)
      | ((with_reducible refine af (N := 52) rfl ?_); refine a7 rfl 99 (.tmp 4) rfl g4 rfl _ _ _ HY.out Tryz.underlying99 rfl 1 (by kernel_rfl) rfl ?_)
      | (refine ay rfl 99 (.tmp 2) (.tmp 52) rfl g2 [.slice Ao acc.length co] rfl rfl 99 _ HX.out 1 (by kernel_rfl) rfl rfl (by intro u hu; simp at hu; subst hu; rfl) ?_; intro W9 eP cI))
     exact bodyPost_ret (bT rfl _ _ g2 99 _ (0, 0) _ rfl eP Tryz.underlying99 rfl (by kernel_rfl)) rfl (Rs rfl ab5.out HMR.out HWB.out (th HA.out cI HXB.out) (HB.out.grown cI HB.out.size (by intro k hk; cases hk; exact fR.out)))
    ·have HNO := ak hno
     clear hno
     rcases hcs with rfl | ⟨rfl, rfl⟩ | ⟨rfl, rfl, rfl⟩
     all_goals
      go_wp2_with (first
       | (go_at_call 95; refine (lG _ HQ.out).mono ?_; rintro e W1 ⟨rfl, aw⟩; replace HQ := ak (HQ.out.below aw); replace HY := ak (HY.out.below aw); replace HX := ak (HX.out.below aw); replace HA := ak (Kd.R_below HA.out aw); replace HB := ak (HB.out.trans (aw.mono HB.out.size)); clear aw)
       | (go_at_call 85; refine (HD'.out _ _ _ _ HQ.out).mono ?_; rintro e W2 ⟨rfl, aw⟩; replace HY := ak (HY.out.below aw); replace HX := ak (HX.out.below aw); replace HA := ak (Kd.R_below HA.out aw); replace HB := ak (HB.out.trans (aw.mono HB.out.size)); clear aw)
       | ((with_reducible refine af (N := 47) rfl ?_); refine bL (by rfl) ?_; refine a7 rfl 99 (.tmp 4) rfl g4 rfl _ _ _ HY.out Tryz.underlying99 rfl 1 (by kernel_rfl) rfl ?_)
       | (go_at_call 96; refine (HRT.out Ao co _ (eI HA.out).1 (eI HA.out).2).mono ?_; rintro e W3 ⟨rfl, aw⟩; replace HY := ak (HY.out.below aw); replace HX := ak (HX.out.below aw); replace HA := ak (Kd.R_below HA.out aw); replace HB := ak (HB.out.trans (aw.mono HB.out.size)); clear aw)
       | ((with_reducible refine af (N := 51) rfl ?_); refine dE rfl 99 #[] rfl mh (IW _) ?_)
       | (refine ay rfl 99 (.tmp 2) (.tmp 51) rfl g2 mh rfl rfl 99 _ HX.out 1 (by kernel_rfl) rfl rfl (by intro u hu; simp [mh] at hu; subst hu; rfl) ?_; intro W9 eP cI)
       | ((with_reducible refine af (N := 52) rfl ?_); refine a7 rfl 99 (.tmp 4) rfl g4 rfl _ _ _ HY.out Tryz.underlying99 rfl 1 (by kernel_rfl) rfl ?_)
       | (refine ay rfl 99 (.tmp 2) (.tmp 52) rfl g2 [.slice Ao acc.length co] rfl rfl 99 _ HX.out 1 (by kernel_rfl) rfl rfl (by intro u hu; simp at hu; subst hu; rfl) ?_; intro W9 eP cI))
      exact bodyPost_ret (bT rfl _ _ g2 99 _ (0, 0) _ rfl eP Tryz.underlying99 rfl (by kernel_rfl)) rfl (T8 rfl HNO.out (HB.out.grown cI HB.out.size (by intro k hk; cases hk; exact fR.out)))
end
section
def tJ (key val : ByteArray) (rev : Int) : Value := .agg #[.string key, .string val, .int .i64 rev]
end
section
theorem Rk : (Tryz.prog.info? 64).map (fun i => (i.zero, i.size, i.bytes)) = some (some (.agg kW.toArray), 68, 136) := by kernel_rfl
def sE (vp vb m1 m2 m3 : Value) : List Value := [vp, vb, m1, m2, m3]
theorem An : ∀ (l : List Value) (k : Nat) (z : Array Value), k + l.length = z.size → (l.zipIdx k).foldl (fun (cs : Array Value) (x : Value × Nat) => cs.setIfInBounds x.2 x.1) z = (z.toList.take k ++ l).toArray
 | [], k, z, h => by
  simp only [List.zipIdx_nil, List.foldl_nil, List.append_nil]
  rw [List.take_of_length_le (by simpa using (show z.size ≤ k by simpa using Nat.le_of_eq h.symm))]
 | x :: l, k, z, h => by
  rw [List.zipIdx_cons, List.foldl_cons, An l (k + 1) (z.setIfInBounds k x) (by simp at h ⊢; omega)]
  have hk : k < z.toList.length := by simp at h ⊢; omega
  have e : (z.setIfInBounds k x).toList = z.toList.set k x := by simp
  rw [e, List.take_succ_eq_append_getElem (by simpa using hk), List.getElem_set_self, List.take_set_of_le (Nat.le_refl k), List.append_assoc]
  rfl
theorem JK (W : World) (cs : List Value) (hl : cs.length = 68) : (Instr.buildSlice 25 1 #[(0, .agg cs.toArray)]).run Tryz.prog W = .ok (.slice (some ⟨W.heap.size, 0, none⟩) 1 1) (W.alloc (.cells cs.toArray 64)) := by
 have h1 : ¬ (¬ cs.length = 68 ∨ 68 < cs.length) := by omega
 go_simp
 rw [An cs 0 _ (by simp [hl])]
 simp only [List.take_zero, List.nil_append]
theorem D8 {o : Oper} {a : Act} {W : World} (x : Operand) (ho : o.op = .buildSlice 25 1 #[(0, x)]) (cs : List Value) (hx : a.eval x = .agg cs.toArray) (hl : cs.length = 68) :
  (execOp a.eval o).run Tryz.prog W = .ok (.value (.slice (some ⟨W.heap.size, 0, none⟩) 1 1)) (W.alloc (.cells cs.toArray 64)) := by
 unfold execOp
 simp only [ho, List.map_toArray, List.map_cons, List.map_nil, hx, Sem.run_bind, JK W cs hl, Result.andThen_ok, Sem.run_pure]
def yT.T5 : Bool × List (List Nat × List Nat) := (true, [([], []), ([], []), ([1], [1]), ([2], [2]), ([3], [3]), ([], []), ([5], [5]), ([4, 6], [4, 6]), ([0, 0, 1, 2, 3, 4, 5, 6, 7], [0]), ([8, 0, 1, 2, 3, 4, 5, 6, 7], [8]), ([9, 7, 7, 0, 1, 2, 3, 4, 5, 6, 7], [7, 9])])
def yT.B5 : List Nat := [0, 0, 2, 6, 14, 0, 32, 126, 255, 511, 1023]
theorem yT.tab5 : dA .any (opsOf Tryz.f30 5) = yT.T5 := by kernel_rfl
theorem yT.bits5 : dy yT.T5.2 yT.B5 = true := by kernel_rfl
end
end Go.Proofs.YtndddnglapkplaaGreatDoor.V
