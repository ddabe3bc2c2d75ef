/- The law ViewApart for every input: texts of ours, put together (part 8 of 16). No further condition. -/
import Derived.Test.YtndddnglapkplaaGreatDoorCViewApartx2
import Derived.Test.YtndddnglapkplaaGreatDoorCViewApartx5
import Derived.Test.YtndddnglapkplaaGreatDoorCViewApartx3
import Derived.Test.YtndddnglapkplaaGreatDoorCViewApartx6
import Derived.Test.YtndddnglapkplaaGreatDoorCViewApartx4
import Derived.Handy
set_option linter.unusedVariables false
set_option linter.unusedSimpArgs false
open Go.RowKit Go.Proofs.YtndddnglapkplaaGreatDoorW.PrintWords Go.Proofs.YtndddnglapkplaaGreatDoorW.PrintLast Go.Proofs.YtndddnglapkplaaGreatDoorW.PrintMore Go.Proofs.YtndddnglapkplaaGreatDoor.Z
section
namespace Go.Proofs.YtndddnglapkplaaGreatDoor.V
attribute [local go_sem] bI bG bP bO bw bu bH bF
def ec.f (k : Nat) (a0 : Int) : Option (ByteArray) := (aX.f k a0 0).bind fun nD => ((aI.f k nD).bind fun bx => (if bx.size + 1 ≤ 9223372036854775807 then ((aX.f k a0 1).bind fun ki => ((aI.f k ki).bind fun bE => (if (bx ++ (⟨#[46]⟩ : ByteArray)).size + bE.size ≤ 9223372036854775807 then (if ((bx ++ (⟨#[46]⟩ : ByteArray)) ++ bE).size + 1 ≤ 9223372036854775807 then ((aX.f k a0 2).bind fun il => ((aI.f k il).bind fun b8 => (if (((bx ++ (⟨#[46]⟩ : ByteArray)) ++ bE) ++ (⟨#[46]⟩ : ByteArray)).size + b8.size ≤ 9223372036854775807 then (if ((((bx ++ (⟨#[46]⟩ : ByteArray)) ++ bE) ++ (⟨#[46]⟩ : ByteArray)) ++ b8).size + 1 ≤ 9223372036854775807 then ((aX.f k a0 3).bind fun fP => ((aI.f k fP).bind fun dy => (if (((((bx ++ (⟨#[46]⟩ : ByteArray)) ++ bE) ++ (⟨#[46]⟩ : ByteArray)) ++ b8) ++ (⟨#[46]⟩ : ByteArray)).size + dy.size ≤ 9223372036854775807 then (some ((((((bx ++ (⟨#[46]⟩ : ByteArray)) ++ bE) ++ (⟨#[46]⟩ : ByteArray)) ++ b8) ++ (⟨#[46]⟩ : ByteArray)) ++ dy)) else (none)))) else (none)) else (none)))) else (none)) else (none)))) else (none)))
set_option maxHeartbeats 8000000 in
set_option maxRecDepth 100000 in
theorem ec.calls (k : Nat) (a0 : Int) (r : ByteArray) (w : World) (h : ec.f k a0 = some r) :
  Calls Tryz.prog 72 #[.int .u32 a0] w fun e w' => e = .returned (.string r) ∧ Below w.heap.size w w' := by
 have HB := ak (Below.refl w.heap.size w)
 have H : ((aX.f k a0 0).bind fun nD => ((aI.f k nD).bind fun bx => (if bx.size + 1 ≤ 9223372036854775807 then ((aX.f k a0 1).bind fun ki => ((aI.f k ki).bind fun bE => (if (bx ++ (⟨#[46]⟩ : ByteArray)).size + bE.size ≤ 9223372036854775807 then (if ((bx ++ (⟨#[46]⟩ : ByteArray)) ++ bE).size + 1 ≤ 9223372036854775807 then ((aX.f k a0 2).bind fun il => ((aI.f k il).bind fun b8 => (if (((bx ++ (⟨#[46]⟩ : ByteArray)) ++ bE) ++ (⟨#[46]⟩ : ByteArray)).size + b8.size ≤ 9223372036854775807 then (if ((((bx ++ (⟨#[46]⟩ : ByteArray)) ++ bE) ++ (⟨#[46]⟩ : ByteArray)) ++ b8).size + 1 ≤ 9223372036854775807 then ((aX.f k a0 3).bind fun fP => ((aI.f k fP).bind fun dy => (if (((((bx ++ (⟨#[46]⟩ : ByteArray)) ++ bE) ++ (⟨#[46]⟩ : ByteArray)) ++ b8) ++ (⟨#[46]⟩ : ByteArray)).size + dy.size ≤ 9223372036854775807 then (some ((((((bx ++ (⟨#[46]⟩ : ByteArray)) ++ bE) ++ (⟨#[46]⟩ : ByteArray)) ++ b8) ++ (⟨#[46]⟩ : ByteArray)) ++ dy)) else (none)))) else (none)) else (none)))) else (none)) else (none)))) else (none)))) = some r := h
 clear h
 replace H := Option.bind_eq_some_iff.mp H
 obtain ⟨nD, ek, H⟩ := H
 replace H : ((aI.f k nD).bind fun bx => (if bx.size + 1 ≤ 9223372036854775807 then ((aX.f k a0 1).bind fun ki => ((aI.f k ki).bind fun bE => (if (bx ++ (⟨#[46]⟩ : ByteArray)).size + bE.size ≤ 9223372036854775807 then (if ((bx ++ (⟨#[46]⟩ : ByteArray)) ++ bE).size + 1 ≤ 9223372036854775807 then ((aX.f k a0 2).bind fun il => ((aI.f k il).bind fun b8 => (if (((bx ++ (⟨#[46]⟩ : ByteArray)) ++ bE) ++ (⟨#[46]⟩ : ByteArray)).size + b8.size ≤ 9223372036854775807 then (if ((((bx ++ (⟨#[46]⟩ : ByteArray)) ++ bE) ++ (⟨#[46]⟩ : ByteArray)) ++ b8).size + 1 ≤ 9223372036854775807 then ((aX.f k a0 3).bind fun fP => ((aI.f k fP).bind fun dy => (if (((((bx ++ (⟨#[46]⟩ : ByteArray)) ++ bE) ++ (⟨#[46]⟩ : ByteArray)) ++ b8) ++ (⟨#[46]⟩ : ByteArray)).size + dy.size ≤ 9223372036854775807 then (some ((((((bx ++ (⟨#[46]⟩ : ByteArray)) ++ bE) ++ (⟨#[46]⟩ : ByteArray)) ++ b8) ++ (⟨#[46]⟩ : ByteArray)) ++ dy)) else (none)))) else (none)) else (none)))) else (none)) else (none)))) else (none))) = some r := H
 have A2 := ak ek
 clear ek
 replace H := Option.bind_eq_some_iff.mp H
 obtain ⟨bx, hG, H⟩ := H
 replace H : (if bx.size + 1 ≤ 9223372036854775807 then ((aX.f k a0 1).bind fun ki => ((aI.f k ki).bind fun bE => (if (bx ++ (⟨#[46]⟩ : ByteArray)).size + bE.size ≤ 9223372036854775807 then (if ((bx ++ (⟨#[46]⟩ : ByteArray)) ++ bE).size + 1 ≤ 9223372036854775807 then ((aX.f k a0 2).bind fun il => ((aI.f k il).bind fun b8 => (if (((bx ++ (⟨#[46]⟩ : ByteArray)) ++ bE) ++ (⟨#[46]⟩ : ByteArray)).size + b8.size ≤ 9223372036854775807 then (if ((((bx ++ (⟨#[46]⟩ : ByteArray)) ++ bE) ++ (⟨#[46]⟩ : ByteArray)) ++ b8).size + 1 ≤ 9223372036854775807 then ((aX.f k a0 3).bind fun fP => ((aI.f k fP).bind fun dy => (if (((((bx ++ (⟨#[46]⟩ : ByteArray)) ++ bE) ++ (⟨#[46]⟩ : ByteArray)) ++ b8) ++ (⟨#[46]⟩ : ByteArray)).size + dy.size ≤ 9223372036854775807 then (some ((((((bx ++ (⟨#[46]⟩ : ByteArray)) ++ bE) ++ (⟨#[46]⟩ : ByteArray)) ++ b8) ++ (⟨#[46]⟩ : ByteArray)) ++ dy)) else (none)))) else (none)) else (none)))) else (none)) else (none)))) else (none)) = some r := H
 have A3 := ak hG
 clear hG
 by_cases c4 : bx.size + 1 ≤ 9223372036854775807
 ·rw [if_pos c4] at H
  have fj := eq_true c4
  have sU : decide (bx.size + 1 ≤ 9223372036854775807) = true := decide_eq_true c4
  try have QP : (9223372036854775807 < bx.size + 1) = False := eq_false (Nat.not_lt.2 c4)
  replace H := Option.bind_eq_some_iff.mp H
  obtain ⟨ki, qa, H⟩ := H
  replace H : ((aI.f k ki).bind fun bE => (if (bx ++ (⟨#[46]⟩ : ByteArray)).size + bE.size ≤ 9223372036854775807 then (if ((bx ++ (⟨#[46]⟩ : ByteArray)) ++ bE).size + 1 ≤ 9223372036854775807 then ((aX.f k a0 2).bind fun il => ((aI.f k il).bind fun b8 => (if (((bx ++ (⟨#[46]⟩ : ByteArray)) ++ bE) ++ (⟨#[46]⟩ : ByteArray)).size + b8.size ≤ 9223372036854775807 then (if ((((bx ++ (⟨#[46]⟩ : ByteArray)) ++ bE) ++ (⟨#[46]⟩ : ByteArray)) ++ b8).size + 1 ≤ 9223372036854775807 then ((aX.f k a0 3).bind fun fP => ((aI.f k fP).bind fun dy => (if (((((bx ++ (⟨#[46]⟩ : ByteArray)) ++ bE) ++ (⟨#[46]⟩ : ByteArray)) ++ b8) ++ (⟨#[46]⟩ : ByteArray)).size + dy.size ≤ 9223372036854775807 then (some ((((((bx ++ (⟨#[46]⟩ : ByteArray)) ++ bE) ++ (⟨#[46]⟩ : ByteArray)) ++ b8) ++ (⟨#[46]⟩ : ByteArray)) ++ dy)) else (none)))) else (none)) else (none)))) else (none)) else (none))) = some r := H
  have A5 := ak qa
  clear qa
  replace H := Option.bind_eq_some_iff.mp H
  obtain ⟨bE, pZ, H⟩ := H
  replace H : (if (bx ++ (⟨#[46]⟩ : ByteArray)).size + bE.size ≤ 9223372036854775807 then (if ((bx ++ (⟨#[46]⟩ : ByteArray)) ++ bE).size + 1 ≤ 9223372036854775807 then ((aX.f k a0 2).bind fun il => ((aI.f k il).bind fun b8 => (if (((bx ++ (⟨#[46]⟩ : ByteArray)) ++ bE) ++ (⟨#[46]⟩ : ByteArray)).size + b8.size ≤ 9223372036854775807 then (if ((((bx ++ (⟨#[46]⟩ : ByteArray)) ++ bE) ++ (⟨#[46]⟩ : ByteArray)) ++ b8).size + 1 ≤ 9223372036854775807 then ((aX.f k a0 3).bind fun fP => ((aI.f k fP).bind fun dy => (if (((((bx ++ (⟨#[46]⟩ : ByteArray)) ++ bE) ++ (⟨#[46]⟩ : ByteArray)) ++ b8) ++ (⟨#[46]⟩ : ByteArray)).size + dy.size ≤ 9223372036854775807 then (some ((((((bx ++ (⟨#[46]⟩ : ByteArray)) ++ bE) ++ (⟨#[46]⟩ : ByteArray)) ++ b8) ++ (⟨#[46]⟩ : ByteArray)) ++ dy)) else (none)))) else (none)) else (none)))) else (none)) else (none)) = some r := H
  have A6 := ak pZ
  clear pZ
  by_cases c7 : (bx ++ (⟨#[46]⟩ : ByteArray)).size + bE.size ≤ 9223372036854775807
  ·rw [if_pos c7] at H
   have nn := eq_true c7
   have uN : decide ((bx ++ (⟨#[46]⟩ : ByteArray)).size + bE.size ≤ 9223372036854775807) = true := decide_eq_true c7
   try have Mm : (9223372036854775807 < (bx ++ (⟨#[46]⟩ : ByteArray)).size + bE.size) = False := eq_false (Nat.not_lt.2 c7)
   try have zN : ¬ 9223372036854775807 < bx.size + 1 + bE.size := by have h_ := c7; simp only [ByteArray.size_append] at h_; exact Nat.not_lt.2 h_
   try have Ml := eq_false zN
   by_cases c8 : ((bx ++ (⟨#[46]⟩ : ByteArray)) ++ bE).size + 1 ≤ 9223372036854775807
   ·rw [if_pos c8] at H
    have ma := eq_true c8
    have rK : decide (((bx ++ (⟨#[46]⟩ : ByteArray)) ++ bE).size + 1 ≤ 9223372036854775807) = true := decide_eq_true c8
    try have Mk : (9223372036854775807 < ((bx ++ (⟨#[46]⟩ : ByteArray)) ++ bE).size + 1) = False := eq_false (Nat.not_lt.2 c8)
    try have QM : ¬ 9223372036854775807 < bx.size + 1 + bE.size + 1 := by have h_ := c8; simp only [ByteArray.size_append] at h_; exact Nat.not_lt.2 h_
    try have XA := eq_false QM
    replace H := Option.bind_eq_some_iff.mp H
    obtain ⟨il, Fy, H⟩ := H
    replace H : ((aI.f k il).bind fun b8 => (if (((bx ++ (⟨#[46]⟩ : ByteArray)) ++ bE) ++ (⟨#[46]⟩ : ByteArray)).size + b8.size ≤ 9223372036854775807 then (if ((((bx ++ (⟨#[46]⟩ : ByteArray)) ++ bE) ++ (⟨#[46]⟩ : ByteArray)) ++ b8).size + 1 ≤ 9223372036854775807 then ((aX.f k a0 3).bind fun fP => ((aI.f k fP).bind fun dy => (if (((((bx ++ (⟨#[46]⟩ : ByteArray)) ++ bE) ++ (⟨#[46]⟩ : ByteArray)) ++ b8) ++ (⟨#[46]⟩ : ByteArray)).size + dy.size ≤ 9223372036854775807 then (some ((((((bx ++ (⟨#[46]⟩ : ByteArray)) ++ bE) ++ (⟨#[46]⟩ : ByteArray)) ++ b8) ++ (⟨#[46]⟩ : ByteArray)) ++ dy)) else (none)))) else (none)) else (none))) = some r := H
    have A9 := ak Fy
    clear Fy
    replace H := Option.bind_eq_some_iff.mp H
    obtain ⟨b8, NB, H⟩ := H
    replace H : (if (((bx ++ (⟨#[46]⟩ : ByteArray)) ++ bE) ++ (⟨#[46]⟩ : ByteArray)).size + b8.size ≤ 9223372036854775807 then (if ((((bx ++ (⟨#[46]⟩ : ByteArray)) ++ bE) ++ (⟨#[46]⟩ : ByteArray)) ++ b8).size + 1 ≤ 9223372036854775807 then ((aX.f k a0 3).bind fun fP => ((aI.f k fP).bind fun dy => (if (((((bx ++ (⟨#[46]⟩ : ByteArray)) ++ bE) ++ (⟨#[46]⟩ : ByteArray)) ++ b8) ++ (⟨#[46]⟩ : ByteArray)).size + dy.size ≤ 9223372036854775807 then (some ((((((bx ++ (⟨#[46]⟩ : ByteArray)) ++ bE) ++ (⟨#[46]⟩ : ByteArray)) ++ b8) ++ (⟨#[46]⟩ : ByteArray)) ++ dy)) else (none)))) else (none)) else (none)) = some r := H
    have VZ := ak NB
    clear NB
    by_cases eD : (((bx ++ (⟨#[46]⟩ : ByteArray)) ++ bE) ++ (⟨#[46]⟩ : ByteArray)).size + b8.size ≤ 9223372036854775807
    ·rw [if_pos eD] at H
     have mT := eq_true eD
     have pT : decide ((((bx ++ (⟨#[46]⟩ : ByteArray)) ++ bE) ++ (⟨#[46]⟩ : ByteArray)).size + b8.size ≤ 9223372036854775807) = true := decide_eq_true eD
     try have Pf : (9223372036854775807 < (((bx ++ (⟨#[46]⟩ : ByteArray)) ++ bE) ++ (⟨#[46]⟩ : ByteArray)).size + b8.size) = False := eq_false (Nat.not_lt.2 eD)
     try have Pe : ¬ 9223372036854775807 < bx.size + 1 + bE.size + 1 + b8.size := by have h_ := eD; simp only [ByteArray.size_append] at h_; exact Nat.not_lt.2 h_
     try have Xd := eq_false Pe
     by_cases ft : ((((bx ++ (⟨#[46]⟩ : ByteArray)) ++ bE) ++ (⟨#[46]⟩ : ByteArray)) ++ b8).size + 1 ≤ 9223372036854775807
     ·rw [if_pos ft] at H
      have pS := eq_true ft
      have we : decide (((((bx ++ (⟨#[46]⟩ : ByteArray)) ++ bE) ++ (⟨#[46]⟩ : ByteArray)) ++ b8).size + 1 ≤ 9223372036854775807) = true := decide_eq_true ft
      try have Xc : (9223372036854775807 < ((((bx ++ (⟨#[46]⟩ : ByteArray)) ++ bE) ++ (⟨#[46]⟩ : ByteArray)) ++ b8).size + 1) = False := eq_false (Nat.not_lt.2 ft)
      try have Pd : ¬ 9223372036854775807 < bx.size + 1 + bE.size + 1 + b8.size + 1 := by have h_ := ft; simp only [ByteArray.size_append] at h_; exact Nat.not_lt.2 h_
      try have Xb := eq_false Pd
      replace H := Option.bind_eq_some_iff.mp H
      obtain ⟨fP, tn, H⟩ := H
      replace H : ((aI.f k fP).bind fun dy => (if (((((bx ++ (⟨#[46]⟩ : ByteArray)) ++ bE) ++ (⟨#[46]⟩ : ByteArray)) ++ b8) ++ (⟨#[46]⟩ : ByteArray)).size + dy.size ≤ 9223372036854775807 then (some ((((((bx ++ (⟨#[46]⟩ : ByteArray)) ++ bE) ++ (⟨#[46]⟩ : ByteArray)) ++ b8) ++ (⟨#[46]⟩ : ByteArray)) ++ dy)) else (none))) = some r := H
      have wz := ak tn
      clear tn
      replace H := Option.bind_eq_some_iff.mp H
      obtain ⟨dy, AO, H⟩ := H
      replace H : (if (((((bx ++ (⟨#[46]⟩ : ByteArray)) ++ bE) ++ (⟨#[46]⟩ : ByteArray)) ++ b8) ++ (⟨#[46]⟩ : ByteArray)).size + dy.size ≤ 9223372036854775807 then (some ((((((bx ++ (⟨#[46]⟩ : ByteArray)) ++ bE) ++ (⟨#[46]⟩ : ByteArray)) ++ b8) ++ (⟨#[46]⟩ : ByteArray)) ++ dy)) else (none)) = some r := H
      have ri := ak AO
      clear AO
      by_cases kL : (((((bx ++ (⟨#[46]⟩ : ByteArray)) ++ bE) ++ (⟨#[46]⟩ : ByteArray)) ++ b8) ++ (⟨#[46]⟩ : ByteArray)).size + dy.size ≤ 9223372036854775807
      ·rw [if_pos kL] at H
       have Dl := eq_true kL
       have IV : decide ((((((bx ++ (⟨#[46]⟩ : ByteArray)) ++ bE) ++ (⟨#[46]⟩ : ByteArray)) ++ b8) ++ (⟨#[46]⟩ : ByteArray)).size + dy.size ≤ 9223372036854775807) = true := decide_eq_true kL
       try have Xa : (9223372036854775807 < (((((bx ++ (⟨#[46]⟩ : ByteArray)) ++ bE) ++ (⟨#[46]⟩ : ByteArray)) ++ b8) ++ (⟨#[46]⟩ : ByteArray)).size + dy.size) = False := eq_false (Nat.not_lt.2 kL)
       try have Pc : ¬ 9223372036854775807 < bx.size + 1 + bE.size + 1 + b8.size + 1 + dy.size := by have h_ := kL; simp only [ByteArray.size_append] at h_; exact Nat.not_lt.2 h_
       try have WZ := eq_false Pc
       obtain rfl := Option.some.inj H
       go_enter Tryz.func72, Tryz.ntmps72
       go_wp2_with (first | ((with_reducible refine aD (f := 105) rfl ?_); refine bg (some 4) rfl rfl Tryz.func105 (by kernel_rfl) rfl #[.int .u32 a0, .int .i64 0] rfl (by (try simp only [List.map_toArray, List.map_cons, List.map_nil]); first | done | rfl | (simp only [List.length_drop, List.length_take]; rfl)) ?_; (with_reducible refine (aX.calls k a0 0 nD _ A2.out).mono ?_); rintro e w' ⟨rfl, ⟨nd, rfl⟩⟩; refine ⟨_, rfl, ?_⟩) | ((with_reducible refine aD (f := 104) rfl ?_); refine bg (some 5) rfl rfl Tryz.func104 (by kernel_rfl) rfl #[.int .i64 nD] rfl (by (try simp only [List.map_toArray, List.map_cons, List.map_nil]); first | done | rfl | (simp only [List.length_drop, List.length_take]; rfl)) ?_; (with_reducible refine (aI.calls k nD bx _ A3.out).mono ?_); rintro e DP ⟨rfl, hb⟩; refine ⟨_, rfl, ?_⟩; have av := ak (au (by repeat (first | (with_reducible first | exact HB.out | apply aa | apply J | apply ab) | exact HB.out)) hb); clear HB; have HB := av; clear av; (try clear hb); (try clear bC); (try clear hk); (try clear hi)) | ((with_reducible refine aD (f := 105) rfl ?_); refine bg (some 8) rfl rfl Tryz.func105 (by kernel_rfl) rfl #[.int .u32 a0, .int .i64 1] rfl (by (try simp only [List.map_toArray, List.map_cons, List.map_nil]); first | done | rfl | (simp only [List.length_drop, List.length_take]; rfl)) ?_; (with_reducible refine (aX.calls k a0 1 ki _ A5.out).mono ?_); rintro e w' ⟨rfl, ⟨nd, rfl⟩⟩; refine ⟨_, rfl, ?_⟩) | ((with_reducible refine aD (f := 104) rfl ?_); refine bg (some 9) rfl rfl Tryz.func104 (by kernel_rfl) rfl #[.int .i64 ki] rfl (by (try simp only [List.map_toArray, List.map_cons, List.map_nil]); first | done | rfl | (simp only [List.length_drop, List.length_take]; rfl)) ?_; (with_reducible refine (aI.calls k ki bE _ A6.out).mono ?_); rintro e u2 ⟨rfl, hb⟩; refine ⟨_, rfl, ?_⟩; have av := ak (au (by repeat (first | (with_reducible first | exact HB.out | apply aa | apply J | apply ab) | exact HB.out)) hb); clear HB; have HB := av; clear av; (try clear hb); (try clear bC); (try clear hk); (try clear hi)) | ((with_reducible refine aD (f := 105) rfl ?_); refine bg (some 13) rfl rfl Tryz.func105 (by kernel_rfl) rfl #[.int .u32 a0, .int .i64 2] rfl (by (try simp only [List.map_toArray, List.map_cons, List.map_nil]); first | done | rfl | (simp only [List.length_drop, List.length_take]; rfl)) ?_; (with_reducible refine (aX.calls k a0 2 il _ A9.out).mono ?_); rintro e w' ⟨rfl, ⟨nd, rfl⟩⟩; refine ⟨_, rfl, ?_⟩) | ((with_reducible refine aD (f := 104) rfl ?_); refine bg (some 14) rfl rfl Tryz.func104 (by kernel_rfl) rfl #[.int .i64 il] rfl (by (try simp only [List.map_toArray, List.map_cons, List.map_nil]); first | done | rfl | (simp only [List.length_drop, List.length_take]; rfl)) ?_; (with_reducible refine (aI.calls k il b8 _ VZ.out).mono ?_); rintro e tU ⟨rfl, hb⟩; refine ⟨_, rfl, ?_⟩; have av := ak (au (by repeat (first | (with_reducible first | exact HB.out | apply aa | apply J | apply ab) | exact HB.out)) hb); clear HB; have HB := av; clear av; (try clear hb); (try clear bC); (try clear hk); (try clear hi)) | ((with_reducible refine aD (f := 105) rfl ?_); refine bg (some 18) rfl rfl Tryz.func105 (by kernel_rfl) rfl #[.int .u32 a0, .int .i64 3] rfl (by (try simp only [List.map_toArray, List.map_cons, List.map_nil]); first | done | rfl | (simp only [List.length_drop, List.length_take]; rfl)) ?_; (with_reducible refine (aX.calls k a0 3 fP _ wz.out).mono ?_); rintro e w' ⟨rfl, ⟨nd, rfl⟩⟩; refine ⟨_, rfl, ?_⟩) | ((with_reducible refine aD (f := 104) rfl ?_); refine bg (some 19) rfl rfl Tryz.func104 (by kernel_rfl) rfl #[.int .i64 fP] rfl (by (try simp only [List.map_toArray, List.map_cons, List.map_nil]); first | done | rfl | (simp only [List.length_drop, List.length_take]; rfl)) ?_; (with_reducible refine (aI.calls k fP dy _ ri.out).mono ?_); rintro e xp ⟨rfl, hb⟩; refine ⟨_, rfl, ?_⟩; have av := ak (au (by repeat (first | (with_reducible first | exact HB.out | apply aa | apply J | apply ab) | exact HB.out)) hb); clear HB; have HB := av; clear av; (try clear hb); (try clear bC); (try clear hk); (try clear hi)))
       go_ret
       exact ⟨by first | rfl | (simp [aq, ao] <;> rfl) | (simp [*, aq, ao] <;> rfl), by repeat (first | (with_reducible first | exact HB.out | apply aa | apply J | apply ab) | exact HB.out)⟩
      ·rw [if_neg kL] at H
       exact absurd H (by simp)
     ·rw [if_neg ft] at H
      exact absurd H (by simp)
    ·rw [if_neg eD] at H
     exact absurd H (by simp)
   ·rw [if_neg c8] at H
    exact absurd H (by simp)
  ·rw [if_neg c7] at H
   exact absurd H (by simp)
 ·rw [if_neg c4] at H
  exact absurd H (by simp)
end Go.Proofs.YtndddnglapkplaaGreatDoor.V
end

section
namespace Go.Proofs.YtndddnglapkplaaGreatDoor.V
theorem vW (c : UInt8) : ∀ x : List UInt8, c ∉ x → cutAt c x = [x]
 | [], _ => rfl
 | b :: l, h => by
  have h1 : b ≠ c := fun e => h (by simp [e])
  rw [cutAt, if_neg h1, vW c l (fun e => h (by simp [e]))]
theorem pN (c : UInt8) (r : List UInt8) : ∀ x : List UInt8, c ∉ x → cutAt c (x ++ c :: r) = x :: cutAt c r
 | [], _ => by simp [cutAt]
 | b :: l, h => by
  have h1 : b ≠ c := fun e => h (by simp [e])
  rw [List.cons_append, cutAt, if_neg h1, pN c r l (fun e => h (by simp [e]))]
theorem Bf : ((List.range 256).all fun n => (eE n).all fun b => decide (48 ≤ b) && decide (b ≤ 57)) = true := by kernel_rfl
theorem wX (n : Nat) (h : n < 256) (c : UInt8) (hc : c < 48 ∨ 57 < c) : c ∉ eE n := by
 have h1 := List.all_eq_true.1 Bf n (List.mem_range.2 h)
 intro hm
 have h2 := List.all_eq_true.1 h1 c hm
 simp only [Bool.and_eq_true, decide_eq_true_eq] at h2
 rcases hc with hc | hc
 ·exact absurd hc (by simpa using h2.1)
 ·exact absurd hc (by simpa using h2.2)
def kW (a : Nat) : List UInt8 := eE (bU a 0) ++ 46 :: (eE (bU a 1) ++ 46 :: (eE (bU a 2) ++ 46 :: eE (bU a 3)))
theorem iC (a : Nat) : (jf a).data.toList = kW a := by
 have e : (fO a).map (·.data.toList) = [eE (bU a 0), eE (bU a 1), eE (bU a 2), eE (bU a 3)] := by simp [fO, eK]
 unfold jf kW
 rw [e]
 simp [Lib.join, List.intercalate]
theorem Dq (a : Nat) (ha : a < 4294967296) : ((bU a 0 * 256 + bU a 1) * 256 + bU a 2) * 256 + bU a 3 = a := by
 unfold bU
 simp only [Nat.sub_zero, Nat.sub_self]
 omega
theorem xH (a : Nat) (ha : a < 4294967296) : kV (kW a) = some a := by
 have hn := fun i => wX (bU a i) (jW a i) 46 (.inl (by decide))
 unfold kV kW
 rw [pN _ _ _ (hn 0), pN _ _ _ (hn 1), pN _ _ _ (hn 2), vW _ _ (hn 3)]
 simp only [jv, lS _ (jW a _), Option.bind_some, Dq a ha]
theorem AZ (a : Nat) (ha : a < 4294967296) : gj (jf a) = ((a : Int), 0) := by
 unfold gj
 rw [iC, xH a ha]
theorem Kq : ∀ (d k i x : Nat), i + d = 3 → d + 1 ≤ k → x < 4294967296 → aX.l0 k (x : Int) (i : Int) = some ((x / 256 ^ d % 256 : Nat) : Int) := by
 intro d
 induction d with
 | zero =>
  intro k i x hi hk hx
  obtain ⟨k, rfl⟩ : ∃ m, k = m + 1 := ⟨k - 1, by omega⟩
  rw [aX.l0, if_neg (by omega)]
  simp
  rfl
 | succ d ih =>
  intro k i x hi hk hx
  obtain ⟨k, rfl⟩ : ∃ m, k = m + 1 := ⟨k - 1, by omega⟩
  rw [aX.l0, if_pos (by omega), show Int.tdiv (x : Int) 256 = ((x / 256 : Nat) : Int) from rfl, bM _ (by omega) (by omega), bM _ (by omega) (by omega)]
  have := ih k (i + 1) (x / 256) (by omega) (by omega) (by omega)
  rw [Nat.div_div_eq_div_mul, ← Nat.pow_succ'] at this
  exact this
theorem wg (a : Nat) (ha : a < 4294967296) (i : Nat) (hi : i ≤ 3) (k : Nat) (hk : 4 ≤ k) : aX.f k (a : Int) (i : Int) = some ((bU a i : Nat) : Int) := by
 unfold aX.f bU
 rw [bM _ (by omega) (by omega), Kq (3 - i) k i a (by omega) (by omega) ha, Nat.pow_mul]
theorem k5 (n : Nat) : (eK n).size ≤ 3 := by
 have := kC n
 rw [← pK, cw] at this
 exact this
theorem oU (b : UInt8) : (⟨#[b]⟩ : ByteArray).size = 1 := rfl
theorem FI (a : Nat) (ha : a < 4294967296) (k : Nat) (hk : 4 ≤ k) : ec.f k (a : Int) = some (jf a) := by
 have b0 := wg a ha 0 (by omega) k hk; have b1 := wg a ha 1 (by omega) k hk; have b2 := wg a ha 2 (by omega) k hk; have b3 := wg a ha 3 (by omega) k hk
 have n0 := tC _ (jW a 0) k hk; have n1 := tC _ (jW a 1) k hk; have n2 := tC _ (jW a 2) k hk; have n3 := tC _ (jW a 3) k hk
 have s0 := k5 (bU a 0); have s1 := k5 (bU a 1); have s2 := k5 (bU a 2); have s3 := k5 (bU a 3)
 unfold ec.f
 have VB : aX.f k (a : Int) 0 = some ((bU a 0 : Nat) : Int) := b0
 have VA : aX.f k (a : Int) 1 = some ((bU a 1 : Nat) : Int) := b1
 have Vz : aX.f k (a : Int) 2 = some ((bU a 2 : Nat) : Int) := b2
 have Mt : aX.f k (a : Int) 3 = some ((bU a 3 : Nat) : Int) := b3
 rw [VB, Option.bind_some, n0, Option.bind_some, if_pos (by omega), VA, Option.bind_some, n1, Option.bind_some, if_pos (by simp only [ByteArray.size_append, oU]; omega), if_pos (by simp only [ByteArray.size_append, oU]; omega), Vz, Option.bind_some, n2, Option.bind_some, if_pos (by simp only [ByteArray.size_append, oU]; omega), if_pos (by simp only [ByteArray.size_append, oU]; omega), Mt, Option.bind_some, n3, Option.bind_some, if_pos (by simp only [ByteArray.size_append, oU]; omega)]
 congr 1
 apply ByteArray.ext
 apply Array.ext'
 rw [iC]
 simp [kW, eK]
theorem wf_u32 {a : Int} (h : (Lit.int .u32 a).wf = true) : ∃ n : Nat, a = (n : Int) ∧ n < 4294967296 := by
 have : 0 ≤ a ∧ a ≤ 4294967295 := by simpa [Lit.wf, IntKind.min, IntKind.max, IntKind.signed, IntKind.bits] using h
 exact ⟨a.toNat, by omega, by omega⟩
end Go.Proofs.YtndddnglapkplaaGreatDoor.V
end

section
namespace Go.Proofs.YtndddnglapkplaaGreatDoor.V
attribute [local go_sem] bI bG bP bO bw bu bH bF
def db.f (aH : Int) (aC : Int) : Option (Bool) := if aC ≥ 0 then (if aC ≤ 32 then ((fC.f aC).bind fun qn => (some ((Go.bits .andNot .u32 aH qn) == 0))) else (some false)) else (some false)
def db.T1 : Bool × List (List Nat × List Nat) := (true, [([], []), ([0], [0]), ([1], [1]), ([2], [2]), ([3], [3]), ([4, 3], [3, 4]), ([5, 3], [3, 5]), ([3, 6], [3, 6]), ([7, 3], [7]), ([8], [8]), ([9, 8], [8, 9]), ([8], [8]), ([11, 8], [8, 11]), ([12, 8, 8], [8, 12]), ([10, 13, 8], [8, 10, 13]), ([14, 8], [8, 14]), ([8, 15], [8, 15]), ([16, 13, 0, 1, 2, 3, 4, 5, 6, 7, 8, 9, 10, 11, 12, 13, 14, 15, 16], [16])])
def db.B1 : List Nat := [0, 1, 3, 7, 15, 31, 63, 127, 255, 511, 1023, 511, 2559, 6655, 16383, 32767, 65535, 131071]
theorem db.tab1 : dS .any (opsOf Tryz.f75 1) = db.T1 := by kernel_rfl
theorem db.bits1 : ew db.T1.2 db.B1 = true := by kernel_rfl
set_option maxHeartbeats 8000000 in
set_option maxRecDepth 100000 in
theorem db.calls (aH : Int) (aC : Int) (r : Bool) (w : World) (h : db.f aH aC = some r) :
  Calls Tryz.prog 75 #[.agg #[.int .u32 aH, .int .i64 aC]] w fun e w' => e = .returned (.bool r) ∧ Below w.heap.size w w' := by
 have uH := Tryz.underlying67
 have HB := ak (Below.refl w.heap.size w)
 have H : (if aC ≥ 0 then (if aC ≤ 32 then ((fC.f aC).bind fun qn => (some ((Go.bits .andNot .u32 aH qn) == 0))) else (some false)) else (some false)) = some r := h
 clear h
 by_cases c2 : aC ≥ 0
 ·rw [if_pos c2] at H
  have gY : decide (0 ≤ aC) = true := decide_eq_true c2
  clear c2
  by_cases c3 : aC ≤ 32
  ·rw [if_pos c3] at H
   have gw : decide (aC ≤ 32) = true := decide_eq_true c3
   clear c3
   replace H := Option.bind_eq_some_iff.mp H
   obtain ⟨qn, mF, H⟩ := H
   replace H : (some ((Go.bits .andNot .u32 aH qn) == 0)) = some r := H
   have A4 := ak mF
   clear mF
   obtain rfl := Option.some.inj H
   go_enter Tryz.func75, Tryz.ntmps75
   try go_wp2_with (first | ((with_reducible refine aA (N := 1) rfl ?_); refine bl ?hg (N := 1) ?hd (cs := #[.int .u32 aH, .int .i64 aC]) (t := 67) ?hr ?_; (case hd => rfl); (case hg => rfl); (case hr => first | (go_simp; done) | (go_simp; rfl)); intro gM hg w5 hbox hb; have av := ak (au (by repeat (first | (with_reducible first | exact HB.out | apply aa | apply J | apply ab) | exact HB.out)) hb); have az := ak (hbox); have aR := ak ((by rw [hg]; exact (ay (by repeat (first | (with_reducible first | exact HB.out | apply aa | apply J | apply ab) | exact HB.out))) : w.heap.size ≤ gM)); have bp := ak ((by rw [hg]; exact (ay (by repeat (first | (with_reducible first | exact HB.out | apply aa | apply J | apply ab) | exact HB.out))) : w.heap.size ≤ gM)); clear HB; have HB := av; have dY := az; have Cz := aR; have oH := bp; clear av az aR bp; clear hb hbox hg))
   have av := ak (ag dY.out)
   have az := ak (ab HB.out)
   clear dY
   clear HB
   have dY := av
   have HB := az
   clear av az
   refine ee (n := 18) (S := fun w' => w'.cell? ⟨gM, 0, none⟩ = some (.int .u32 aH) ∧ w'.cell? ⟨gM, 1, none⟩ = some (.int .i64 aC)) (ds := []) #[false, false, false, false, false, false, false, false, false, false, false, false, false, false, false, false, false, false] (by kernel_rfl) rfl rfl ⟨(aj dY.out 0).trans rfl, (aj dY.out 1).trans rfl⟩ (fun hHeld => ?_); refine cV db.tab1 db.bits1 (fun an cj => ?_)
   generalize w5.drew = w6 at dY HB hHeld ⊢
   refine pu 0 an.out ?_
   refine take_ (i := 1) (N := some 4) (v := ?_) (a' := ?_) #[true, true, false, false, false, false, false, false, false, false, false, false, false, false, false, false, false, false] rfl rfl (cn an.out cj.out (by kernel_rfl)) (fun _ _ _ h => h) (Or.inl ⟨by rfl, ?_⟩) hHeld ?_ ?_
   rotate_left
   ·rintro w' ⟨s0, s1⟩
    go_simp
    with_reducible rfl
   rotate_left
   ·simp only [Act.put, List.setIfInBounds_toArray, List.set_cons_zero, List.set_cons_succ, cp, cL]
    rfl
   refine pu 2 an.out ?_
   refine pu 3 an.out ?_
   refine pu 4 an.out ?_
   refine take_ (i := 5) (N := some 8) (v := ?_) (a' := ?_) #[true, true, true, true, true, true, false, false, false, false, false, false, false, false, false, false, false, false] rfl rfl (cn an.out cj.out (by kernel_rfl)) (fun _ _ _ h => h) (Or.inl ⟨by rfl, ?_⟩) hHeld ?_ ?_
   rotate_left
   ·rintro w' ⟨s0, s1⟩
    go_simp
    with_reducible rfl
   rotate_left
   ·simp only [Act.put, List.setIfInBounds_toArray, List.set_cons_zero, List.set_cons_succ, cp, cL]
    rfl
   refine pu 6 an.out ?_
   refine pu 7 an.out ?_
   refine pu 8 an.out ?_
   refine pu 9 an.out ?_
   refine pu 11 an.out ?_
   refine take_ (i := 10) (N := some 13) (v := ?_) (a' := ?_) #[true, true, true, true, true, true, true, true, true, true, true, true, false, false, false, false, false, false] rfl rfl (cn an.out cj.out (by kernel_rfl)) (fun _ _ _ h => h) (Or.inl ⟨by rfl, ?_⟩) hHeld ?_ ?_
   rotate_left
   ·rintro w' ⟨s0, s1⟩
    go_simp
    with_reducible rfl
   rotate_left
   ·simp only [Act.put, List.setIfInBounds_toArray, List.set_cons_zero, List.set_cons_succ, cp, cL]
    rfl
   refine take_ (i := 12) (N := some 15) (v := ?_) (a' := ?_) #[true, true, true, true, true, true, true, true, true, true, true, true, true, false, false, false, false, false] rfl rfl (cn an.out cj.out (by kernel_rfl)) (fun _ _ _ h => h) (Or.inl ⟨by rfl, ?_⟩) hHeld ?_ ?_
   rotate_left
   ·rintro w' ⟨s0, s1⟩
    go_simp
    with_reducible rfl
   rotate_left
   ·simp only [Act.put, List.setIfInBounds_toArray, List.set_cons_zero, List.set_cons_succ, cp, cL]
    rfl
   refine on 13 an.out (fun K hK => ?_)
   refine lY Tryz.func74 (by kernel_rfl) rfl #[.int .i64 aC] (by rfl) rfl rfl (by (try simp only [List.map_toArray, List.map_cons, List.map_nil]); first | done | rfl | (simp only [List.length_drop, List.length_take]; rfl)) ?_
   with_reducible refine (fC.calls aC qn _ A4.out).mono ?_
   rintro e w7 ⟨rfl, hb⟩
   refine ⟨_, rfl, ?_⟩
   have av := ak (aU (g := gM) (o := .cells #[.int .u32 aH, .int .i64 aC] 67 (0, 0)) (by (with_reducible repeat (first | refine ae ?_ _ | refine ag ?_ | refine af ?_ _)); exact dY.out) hb)
   have az := ak (au (by repeat (first | (with_reducible first | exact HB.out | apply aa | apply J | apply ab | refine ai ?_ oH.out) | exact HB.out)) hb)
   clear dY
   clear HB
   have dY := av
   have HB := az
   clear av az
   (try clear hb)
   (try clear bC)
   (try clear hk)
   (try clear hi)
   refine kn hK ⟨(aj dY.out 0).trans rfl, (aj dY.out 1).trans rfl⟩ (fun hHeld => ?_)
   clear hK K
   refine pu 14 an.out ?_
   refine pu 15 an.out ?_
   refine pu 16 an.out ?_
   refine pu 17 an.out ?_
   refine dn an.out ?_
   try go_wp2
   go_ret
   exact ⟨by first | rfl | (simp [aq, ao] <;> rfl) | (simp [*, aq, ao] <;> rfl), by repeat (first | (with_reducible first | exact HB.out | apply aa | apply J | apply ab | refine ai ?_ oH.out) | exact HB.out)⟩
  ·rw [if_neg c3] at H
   have gw : decide (aC ≤ 32) = false := decide_eq_false c3
   clear c3
   obtain rfl := Option.some.inj H
   go_enter Tryz.func75, Tryz.ntmps75
   try go_wp2_with (first | ((with_reducible refine aA (N := 1) rfl ?_); refine bl ?hg (N := 1) ?hd (cs := #[.int .u32 aH, .int .i64 aC]) (t := 67) ?hr ?_; (case hd => rfl); (case hg => rfl); (case hr => first | (go_simp; done) | (go_simp; rfl)); intro gM hg w8 hbox hb; have av := ak (au (by repeat (first | (with_reducible first | exact HB.out | apply aa | apply J | apply ab) | exact HB.out)) hb); have az := ak (hbox); have aR := ak ((by rw [hg]; exact (ay (by repeat (first | (with_reducible first | exact HB.out | apply aa | apply J | apply ab) | exact HB.out))) : w.heap.size ≤ gM)); have bp := ak ((by rw [hg]; exact (ay (by repeat (first | (with_reducible first | exact HB.out | apply aa | apply J | apply ab) | exact HB.out))) : w.heap.size ≤ gM)); clear HB; have HB := av; have dY := az; have Cz := aR; have oH := bp; clear av az aR bp; clear hb hbox hg))
   have av := ak (ag dY.out)
   have az := ak (ab HB.out)
   clear dY
   clear HB
   have dY := av
   have HB := az
   clear av az
   refine ee (n := 18) (S := fun w' => w'.cell? ⟨gM, 0, none⟩ = some (.int .u32 aH) ∧ w'.cell? ⟨gM, 1, none⟩ = some (.int .i64 aC)) (ds := []) #[false, false, false, false, false, false, false, false, false, false, false, false, false, false, false, false, false, false] (by kernel_rfl) rfl rfl ⟨(aj dY.out 0).trans rfl, (aj dY.out 1).trans rfl⟩ (fun hHeld => ?_); refine cV db.tab1 db.bits1 (fun an cj => ?_)
   generalize w8.drew = w9 at dY HB hHeld ⊢
   refine pu 0 an.out ?_
   refine take_ (i := 1) (N := some 4) (v := ?_) (a' := ?_) #[true, true, false, false, false, false, false, false, false, false, false, false, false, false, false, false, false, false] rfl rfl (cn an.out cj.out (by kernel_rfl)) (fun _ _ _ h => h) (Or.inl ⟨by rfl, ?_⟩) hHeld ?_ ?_
   rotate_left
   ·rintro w' ⟨s0, s1⟩
    go_simp
    with_reducible rfl
   rotate_left
   ·simp only [Act.put, List.setIfInBounds_toArray, List.set_cons_zero, List.set_cons_succ, cp, cL]
    rfl
   refine pu 2 an.out ?_
   refine pu 3 an.out ?_
   refine pu 4 an.out ?_
   refine take_ (i := 5) (N := some 8) (v := ?_) (a' := ?_) #[true, true, true, true, true, true, false, false, false, false, false, false, false, false, false, false, false, false] rfl rfl (cn an.out cj.out (by kernel_rfl)) (fun _ _ _ h => h) (Or.inl ⟨by rfl, ?_⟩) hHeld ?_ ?_
   rotate_left
   ·rintro w' ⟨s0, s1⟩
    go_simp
    with_reducible rfl
   rotate_left
   ·simp only [Act.put, List.setIfInBounds_toArray, List.set_cons_zero, List.set_cons_succ, cp, cL]
    rfl
   refine pu 6 an.out ?_
   refine pu 7 an.out ?_
   refine pu 8 an.out ?_
   refine po 9 an.out ?_
   refine po 10 an.out ?_
   refine po 11 an.out ?_
   refine po 12 an.out ?_
   refine po 13 an.out ?_
   refine po 14 an.out ?_
   refine po 15 an.out ?_
   refine pu 16 an.out ?_
   refine pu 17 an.out ?_
   refine dn an.out ?_
   try go_wp2
   go_ret
   exact ⟨by first | rfl | (simp [aq, ao] <;> rfl) | (simp [*, aq, ao] <;> rfl), by repeat (first | (with_reducible first | exact HB.out | apply aa | apply J | apply ab | refine ai ?_ oH.out) | exact HB.out)⟩
 ·rw [if_neg c2] at H
  have gY : decide (0 ≤ aC) = false := decide_eq_false c2
  clear c2
  obtain rfl := Option.some.inj H
  go_enter Tryz.func75, Tryz.ntmps75
  try go_wp2_with (first | ((with_reducible refine aA (N := 1) rfl ?_); refine bl ?hg (N := 1) ?hd (cs := #[.int .u32 aH, .int .i64 aC]) (t := 67) ?hr ?_; (case hd => rfl); (case hg => rfl); (case hr => first | (go_simp; done) | (go_simp; rfl)); intro gM hg js hbox hb; have av := ak (au (by repeat (first | (with_reducible first | exact HB.out | apply aa | apply J | apply ab) | exact HB.out)) hb); have az := ak (hbox); have aR := ak ((by rw [hg]; exact (ay (by repeat (first | (with_reducible first | exact HB.out | apply aa | apply J | apply ab) | exact HB.out))) : w.heap.size ≤ gM)); have bp := ak ((by rw [hg]; exact (ay (by repeat (first | (with_reducible first | exact HB.out | apply aa | apply J | apply ab) | exact HB.out))) : w.heap.size ≤ gM)); clear HB; have HB := av; have dY := az; have Cz := aR; have oH := bp; clear av az aR bp; clear hb hbox hg))
  have av := ak (ag dY.out)
  have az := ak (ab HB.out)
  clear dY
  clear HB
  have dY := av
  have HB := az
  clear av az
  refine ee (n := 18) (S := fun w' => w'.cell? ⟨gM, 0, none⟩ = some (.int .u32 aH) ∧ w'.cell? ⟨gM, 1, none⟩ = some (.int .i64 aC)) (ds := []) #[false, false, false, false, false, false, false, false, false, false, false, false, false, false, false, false, false, false] (by kernel_rfl) rfl rfl ⟨(aj dY.out 0).trans rfl, (aj dY.out 1).trans rfl⟩ (fun hHeld => ?_); refine cV db.tab1 db.bits1 (fun an cj => ?_)
  generalize js.drew = rQ at dY HB hHeld ⊢
  refine pu 0 an.out ?_
  refine take_ (i := 1) (N := some 4) (v := ?_) (a' := ?_) #[true, true, false, false, false, false, false, false, false, false, false, false, false, false, false, false, false, false] rfl rfl (cn an.out cj.out (by kernel_rfl)) (fun _ _ _ h => h) (Or.inl ⟨by rfl, ?_⟩) hHeld ?_ ?_
  rotate_left
  ·rintro w' ⟨s0, s1⟩
   go_simp
   with_reducible rfl
  rotate_left
  ·simp only [Act.put, List.setIfInBounds_toArray, List.set_cons_zero, List.set_cons_succ, cp, cL]
   rfl
  refine pu 2 an.out ?_
  refine pu 3 an.out ?_
  refine po 4 an.out ?_
  refine po 5 an.out ?_
  refine po 6 an.out ?_
  refine pu 7 an.out ?_
  refine pu 8 an.out ?_
  refine po 9 an.out ?_
  refine po 10 an.out ?_
  refine po 11 an.out ?_
  refine po 12 an.out ?_
  refine po 13 an.out ?_
  refine po 14 an.out ?_
  refine po 15 an.out ?_
  refine pu 16 an.out ?_
  refine pu 17 an.out ?_
  refine dn an.out ?_
  try go_wp2
  go_ret
  exact ⟨by first | rfl | (simp [aq, ao] <;> rfl) | (simp [*, aq, ao] <;> rfl), by repeat (first | (with_reducible first | exact HB.out | apply aa | apply J | apply ab | refine ai ?_ oH.out) | exact HB.out)⟩
end Go.Proofs.YtndddnglapkplaaGreatDoor.V
end

section
namespace Go.Proofs.YtndddnglapkplaaGreatDoor.V
attribute [local go_sem] bI bG bP bO bw bu bH bF
def cB.l0 : Nat → Int → Int → Int → Option (Int)
 | 0, _, _, _ => none
 | k + 1, x0, x3, x4 => if x4 < x0 then (cB.l0 k x0 (wrap64 (2 * x3)) (wrap64 (x4 + 1))) else (some x3)
def cB.f (k : Nat) (a0 : Int) : Option (Int) := cB.l0 k a0 1 0
set_option maxHeartbeats 8000000 in
set_option maxRecDepth 100000 in
theorem cB.calls (k : Nat) (a0 : Int) (r : Int) (w : World) (h : cB.f k a0 = some r) :
  Calls Tryz.prog 80 #[.int .i64 a0] w fun e w' => e = .returned (.int .i64 r) ∧ Drawn0 w w' := by
 have H : (cB.l0 k a0 1 0) = some r := h
 clear h
 have H' := ak H
 clear H
 go_enter Tryz.func80, Tryz.ntmps80
 go_wp2
 go_loopg [3, 4] k (fun kq v3 v4 w' => ∃ (aw : Int) (cM : Int), v3 = .int .i64 aw ∧ v4 = .int .i64 cM ∧ Aside0 (cB.l0 kq a0 aw cM = some r) ∧ Aside0 (kq ≤ k) ∧ Drawn0 w w')
 case atStart => exact ⟨(1), (0), (by first | rfl | (simp; done) | (simp [*]; done)), (by first | rfl | (simp; done) | (simp [*]; done)), H', ⟨Nat.le_refl _⟩, by repeat (first | exact Drawn0.refl _ | apply Drawn0.step)⟩
 case round =>
  clear H'
  obtain ⟨aw, cM, rfl, rfl, HA, cC, ⟨m1, rfl⟩⟩ := hrel
  cases gk with
  | zero => exact absurd HA.out (by simp [cB.l0])
  | succ k1 =>
   have H := HA.out
   clear HA
   simp only [cB.l0] at H
   by_cases c2 : cM < a0
   ·rw [if_pos c2] at H
    have gY : decide (cM < a0) = true := decide_eq_true c2
    clear c2
    have H' := ak H
    clear H
    go_wp2
    go_roundg k1
    case measure => have := cC.out; omega
    case rel => exact ⟨(wrap64 (2 * aw)), (wrap64 (cM + 1)), (by first | rfl | (simp; done) | (simp [*]; done)), (by first | rfl | (simp; done) | (simp [*]; done)), H', ⟨by have := cC.out; omega⟩, by repeat (first | exact Drawn0.refl _ | apply Drawn0.step)⟩
   ·rw [if_neg c2] at H
    have gY : decide (cM < a0) = false := decide_eq_false c2
    clear c2
    obtain rfl := Option.some.inj H
    go_wp2
    go_ret
    exact ⟨by first | rfl | (simp; done) | (simp [*]; done), by repeat (first | exact Drawn0.refl _ | apply Drawn0.step)⟩
end Go.Proofs.YtndddnglapkplaaGreatDoor.V
end

section
namespace Go.Proofs.YtndddnglapkplaaGreatDoor.V
attribute [local go_sem] bI bG bP bO bw bu bH bF
def cU.f (k : Nat) (aH : Int) (aC : Int) : Option (Bool) := if aC ≥ 0 then (if aC ≤ 32 then ((cB.f k (wrap64 (32 - aC))).bind fun jc => (if jc = 0 then (none) else (some ((Int.tmod (wrap64 (aH)) jc) == 0)))) else (some false)) else (some false)
set_option maxHeartbeats 8000000 in
set_option maxRecDepth 100000 in
theorem cU.calls (k : Nat) (aH : Int) (aC : Int) (r : Bool) (w : World) (h : cU.f k aH aC = some r) :
  Calls Tryz.prog 49 #[.agg #[.int .u32 aH, .int .i64 aC]] w fun e w' => e = .returned (.bool r) ∧ Below w.heap.size w w' := by
 have Ls := Tryz.underlying43
 have HB := ak (Below.refl w.heap.size w)
 have H : (if aC ≥ 0 then (if aC ≤ 32 then ((cB.f k (wrap64 (32 - aC))).bind fun jc => (if jc = 0 then (none) else (some ((Int.tmod (wrap64 (aH)) jc) == 0)))) else (some false)) else (some false)) = some r := h
 clear h
 by_cases c2 : aC ≥ 0
 ·rw [if_pos c2] at H
  have gY : decide (0 ≤ aC) = true := decide_eq_true c2
  clear c2
  by_cases c3 : aC ≤ 32
  ·rw [if_pos c3] at H
   have gw : decide (aC ≤ 32) = true := decide_eq_true c3
   clear c3
   replace H := Option.bind_eq_some_iff.mp H
   obtain ⟨jc, mF, H⟩ := H
   replace H : (if jc = 0 then (none) else (some ((Int.tmod (wrap64 (aH)) jc) == 0))) = some r := H
   have A4 := ak mF
   clear mF
   by_cases c5 : jc = 0
   ·rw [if_pos c5] at H
    exact absurd H (by simp)
   ·rw [if_neg c5] at H
    have mb : (jc == 0) = false := beq_eq_false_iff_ne.mpr c5
    have sS : (jc != 0) = true := bne_iff_ne.mpr c5
    obtain rfl := Option.some.inj H
    go_enter Tryz.func49, Tryz.ntmps49
    go_wp2_with (first | ((with_reducible refine aA (N := 1) rfl ?_); refine bl ?hg (N := 1) ?hd (cs := #[.int .u32 aH, .int .i64 aC]) (t := 43) ?hr ?_; (case hd => rfl); (case hg => rfl); (case hr => first | (go_simp; done) | (go_simp; rfl)); intro cq hg w6 hbox hb; have av := ak (au (by repeat (first | (with_reducible first | exact HB.out | apply aa | apply J | apply ab) | exact HB.out)) hb); have az := ak (hbox); have aR := ak ((by rw [hg]; exact (ay (by repeat (first | (with_reducible first | exact HB.out | apply aa | apply J | apply ab) | exact HB.out))) : w.heap.size ≤ cq)); have bp := ak ((by rw [hg]; exact (ay (by repeat (first | (with_reducible first | exact HB.out | apply aa | apply J | apply ab) | exact HB.out))) : w.heap.size ≤ cq)); clear HB; have HB := av; have cr := az; have mD := aR; have jS := bp; clear av az aR bp; clear hb hbox hg; have zu : w6.cell? ⟨cq, 0, none⟩ = some (.int .u32 aH) := (aj cr.out 0).trans rfl; have zt : w6.cell? ⟨cq, 1, none⟩ = some (.int .i64 aC) := (aj cr.out 1).trans rfl; have zm := ah cr.out 0; have zl := ah cr.out 1) | (go_at_call 80; (with_reducible refine (cB.calls k (wrap64 (32 - aC)) jc _ A4.out).mono ?_); rintro e w' ⟨rfl, ⟨nd, rfl⟩⟩; (try first | exact ⟨rfl, _, World.drewN_drewN _ _ _⟩ | exact ⟨rfl, _, Eq.trans (World.drewN_drewN _ _ _) (congrArg (World.drewN _) (Nat.add_assoc _ _ _))⟩)))
    repeat (go_quiet (first | ((with_reducible refine aA (N := 1) rfl ?_); refine bl ?hg (N := 1) ?hd (cs := #[.int .u32 aH, .int .i64 aC]) (t := 43) ?hr ?_; (case hd => rfl); (case hg => rfl); (case hr => first | (go_simp; done) | (go_simp; rfl)); intro cq hg w6 hbox hb; have av := ak (au (by repeat (first | (with_reducible first | exact HB.out | apply aa | apply J | apply ab) | exact HB.out)) hb); have az := ak (hbox); have aR := ak ((by rw [hg]; exact (ay (by repeat (first | (with_reducible first | exact HB.out | apply aa | apply J | apply ab) | exact HB.out))) : w.heap.size ≤ cq)); have bp := ak ((by rw [hg]; exact (ay (by repeat (first | (with_reducible first | exact HB.out | apply aa | apply J | apply ab) | exact HB.out))) : w.heap.size ≤ cq)); clear HB; have HB := av; have cr := az; have mD := aR; have jS := bp; clear av az aR bp; clear hb hbox hg; have zu : w6.cell? ⟨cq, 0, none⟩ = some (.int .u32 aH) := (aj cr.out 0).trans rfl; have zt : w6.cell? ⟨cq, 1, none⟩ = some (.int .i64 aC) := (aj cr.out 1).trans rfl; have zm := ah cr.out 0; have zl := ah cr.out 1) | (go_at_call 80; (with_reducible refine (cB.calls k (wrap64 (32 - aC)) jc _ A4.out).mono ?_); rintro e w' ⟨rfl, ⟨nd, rfl⟩⟩; (try first | exact ⟨rfl, _, World.drewN_drewN _ _ _⟩ | exact ⟨rfl, _, Eq.trans (World.drewN_drewN _ _ _) (congrArg (World.drewN _) (Nat.add_assoc _ _ _))⟩))); try go_wp2_with (first | ((with_reducible refine aA (N := 1) rfl ?_); refine bl ?hg (N := 1) ?hd (cs := #[.int .u32 aH, .int .i64 aC]) (t := 43) ?hr ?_; (case hd => rfl); (case hg => rfl); (case hr => first | (go_simp; done) | (go_simp; rfl)); intro cq hg w6 hbox hb; have av := ak (au (by repeat (first | (with_reducible first | exact HB.out | apply aa | apply J | apply ab) | exact HB.out)) hb); have az := ak (hbox); have aR := ak ((by rw [hg]; exact (ay (by repeat (first | (with_reducible first | exact HB.out | apply aa | apply J | apply ab) | exact HB.out))) : w.heap.size ≤ cq)); have bp := ak ((by rw [hg]; exact (ay (by repeat (first | (with_reducible first | exact HB.out | apply aa | apply J | apply ab) | exact HB.out))) : w.heap.size ≤ cq)); clear HB; have HB := av; have cr := az; have mD := aR; have jS := bp; clear av az aR bp; clear hb hbox hg; have zu : w6.cell? ⟨cq, 0, none⟩ = some (.int .u32 aH) := (aj cr.out 0).trans rfl; have zt : w6.cell? ⟨cq, 1, none⟩ = some (.int .i64 aC) := (aj cr.out 1).trans rfl; have zm := ah cr.out 0; have zl := ah cr.out 1) | (go_at_call 80; (with_reducible refine (cB.calls k (wrap64 (32 - aC)) jc _ A4.out).mono ?_); rintro e w' ⟨rfl, ⟨nd, rfl⟩⟩; (try first | exact ⟨rfl, _, World.drewN_drewN _ _ _⟩ | exact ⟨rfl, _, Eq.trans (World.drewN_drewN _ _ _) (congrArg (World.drewN _) (Nat.add_assoc _ _ _))⟩))))
    go_ret
    exact ⟨by first | rfl | (simp [aq, ao] <;> rfl) | (simp [*, aq, ao] <;> rfl), by repeat (first | (with_reducible first | exact HB.out | apply aa | apply J | apply ab | refine ai ?_ jS.out) | exact HB.out)⟩
  ·rw [if_neg c3] at H
   have gw : decide (aC ≤ 32) = false := decide_eq_false c3
   clear c3
   obtain rfl := Option.some.inj H
   go_enter Tryz.func49, Tryz.ntmps49
   go_wp2_with (first | ((with_reducible refine aA (N := 1) rfl ?_); refine bl ?hg (N := 1) ?hd (cs := #[.int .u32 aH, .int .i64 aC]) (t := 43) ?hr ?_; (case hd => rfl); (case hg => rfl); (case hr => first | (go_simp; done) | (go_simp; rfl)); intro cq hg w8 hbox hb; have av := ak (au (by repeat (first | (with_reducible first | exact HB.out | apply aa | apply J | apply ab) | exact HB.out)) hb); have az := ak (hbox); have aR := ak ((by rw [hg]; exact (ay (by repeat (first | (with_reducible first | exact HB.out | apply aa | apply J | apply ab) | exact HB.out))) : w.heap.size ≤ cq)); have bp := ak ((by rw [hg]; exact (ay (by repeat (first | (with_reducible first | exact HB.out | apply aa | apply J | apply ab) | exact HB.out))) : w.heap.size ≤ cq)); clear HB; have HB := av; have cr := az; have mD := aR; have jS := bp; clear av az aR bp; clear hb hbox hg; have sG : w8.cell? ⟨cq, 0, none⟩ = some (.int .u32 aH) := (aj cr.out 0).trans rfl; have sF : w8.cell? ⟨cq, 1, none⟩ = some (.int .i64 aC) := (aj cr.out 1).trans rfl; have sE := ah cr.out 0; have sD := ah cr.out 1))
   repeat (go_quiet (first | ((with_reducible refine aA (N := 1) rfl ?_); refine bl ?hg (N := 1) ?hd (cs := #[.int .u32 aH, .int .i64 aC]) (t := 43) ?hr ?_; (case hd => rfl); (case hg => rfl); (case hr => first | (go_simp; done) | (go_simp; rfl)); intro cq hg w8 hbox hb; have av := ak (au (by repeat (first | (with_reducible first | exact HB.out | apply aa | apply J | apply ab) | exact HB.out)) hb); have az := ak (hbox); have aR := ak ((by rw [hg]; exact (ay (by repeat (first | (with_reducible first | exact HB.out | apply aa | apply J | apply ab) | exact HB.out))) : w.heap.size ≤ cq)); have bp := ak ((by rw [hg]; exact (ay (by repeat (first | (with_reducible first | exact HB.out | apply aa | apply J | apply ab) | exact HB.out))) : w.heap.size ≤ cq)); clear HB; have HB := av; have cr := az; have mD := aR; have jS := bp; clear av az aR bp; clear hb hbox hg; have sG : w8.cell? ⟨cq, 0, none⟩ = some (.int .u32 aH) := (aj cr.out 0).trans rfl; have sF : w8.cell? ⟨cq, 1, none⟩ = some (.int .i64 aC) := (aj cr.out 1).trans rfl; have sE := ah cr.out 0; have sD := ah cr.out 1)); try go_wp2_with (first | ((with_reducible refine aA (N := 1) rfl ?_); refine bl ?hg (N := 1) ?hd (cs := #[.int .u32 aH, .int .i64 aC]) (t := 43) ?hr ?_; (case hd => rfl); (case hg => rfl); (case hr => first | (go_simp; done) | (go_simp; rfl)); intro cq hg w8 hbox hb; have av := ak (au (by repeat (first | (with_reducible first | exact HB.out | apply aa | apply J | apply ab) | exact HB.out)) hb); have az := ak (hbox); have aR := ak ((by rw [hg]; exact (ay (by repeat (first | (with_reducible first | exact HB.out | apply aa | apply J | apply ab) | exact HB.out))) : w.heap.size ≤ cq)); have bp := ak ((by rw [hg]; exact (ay (by repeat (first | (with_reducible first | exact HB.out | apply aa | apply J | apply ab) | exact HB.out))) : w.heap.size ≤ cq)); clear HB; have HB := av; have cr := az; have mD := aR; have jS := bp; clear av az aR bp; clear hb hbox hg; have sG : w8.cell? ⟨cq, 0, none⟩ = some (.int .u32 aH) := (aj cr.out 0).trans rfl; have sF : w8.cell? ⟨cq, 1, none⟩ = some (.int .i64 aC) := (aj cr.out 1).trans rfl; have sE := ah cr.out 0; have sD := ah cr.out 1)))
   go_ret
   exact ⟨by first | rfl | (simp [aq, ao] <;> rfl) | (simp [*, aq, ao] <;> rfl), by repeat (first | (with_reducible first | exact HB.out | apply aa | apply J | apply ab | refine ai ?_ jS.out) | exact HB.out)⟩
 ·rw [if_neg c2] at H
  have gY : decide (0 ≤ aC) = false := decide_eq_false c2
  clear c2
  obtain rfl := Option.some.inj H
  go_enter Tryz.func49, Tryz.ntmps49
  go_wp2_with (first | ((with_reducible refine aA (N := 1) rfl ?_); refine bl ?hg (N := 1) ?hd (cs := #[.int .u32 aH, .int .i64 aC]) (t := 43) ?hr ?_; (case hd => rfl); (case hg => rfl); (case hr => first | (go_simp; done) | (go_simp; rfl)); intro cq hg js hbox hb; have av := ak (au (by repeat (first | (with_reducible first | exact HB.out | apply aa | apply J | apply ab) | exact HB.out)) hb); have az := ak (hbox); have aR := ak ((by rw [hg]; exact (ay (by repeat (first | (with_reducible first | exact HB.out | apply aa | apply J | apply ab) | exact HB.out))) : w.heap.size ≤ cq)); have bp := ak ((by rw [hg]; exact (ay (by repeat (first | (with_reducible first | exact HB.out | apply aa | apply J | apply ab) | exact HB.out))) : w.heap.size ≤ cq)); clear HB; have HB := av; have cr := az; have mD := aR; have jS := bp; clear av az aR bp; clear hb hbox hg; have qL : js.cell? ⟨cq, 0, none⟩ = some (.int .u32 aH) := (aj cr.out 0).trans rfl; have qK : js.cell? ⟨cq, 1, none⟩ = some (.int .i64 aC) := (aj cr.out 1).trans rfl; have qJ := ah cr.out 0; have qI := ah cr.out 1))
  repeat (go_quiet (first | ((with_reducible refine aA (N := 1) rfl ?_); refine bl ?hg (N := 1) ?hd (cs := #[.int .u32 aH, .int .i64 aC]) (t := 43) ?hr ?_; (case hd => rfl); (case hg => rfl); (case hr => first | (go_simp; done) | (go_simp; rfl)); intro cq hg js hbox hb; have av := ak (au (by repeat (first | (with_reducible first | exact HB.out | apply aa | apply J | apply ab) | exact HB.out)) hb); have az := ak (hbox); have aR := ak ((by rw [hg]; exact (ay (by repeat (first | (with_reducible first | exact HB.out | apply aa | apply J | apply ab) | exact HB.out))) : w.heap.size ≤ cq)); have bp := ak ((by rw [hg]; exact (ay (by repeat (first | (with_reducible first | exact HB.out | apply aa | apply J | apply ab) | exact HB.out))) : w.heap.size ≤ cq)); clear HB; have HB := av; have cr := az; have mD := aR; have jS := bp; clear av az aR bp; clear hb hbox hg; have qL : js.cell? ⟨cq, 0, none⟩ = some (.int .u32 aH) := (aj cr.out 0).trans rfl; have qK : js.cell? ⟨cq, 1, none⟩ = some (.int .i64 aC) := (aj cr.out 1).trans rfl; have qJ := ah cr.out 0; have qI := ah cr.out 1)); try go_wp2_with (first | ((with_reducible refine aA (N := 1) rfl ?_); refine bl ?hg (N := 1) ?hd (cs := #[.int .u32 aH, .int .i64 aC]) (t := 43) ?hr ?_; (case hd => rfl); (case hg => rfl); (case hr => first | (go_simp; done) | (go_simp; rfl)); intro cq hg js hbox hb; have av := ak (au (by repeat (first | (with_reducible first | exact HB.out | apply aa | apply J | apply ab) | exact HB.out)) hb); have az := ak (hbox); have aR := ak ((by rw [hg]; exact (ay (by repeat (first | (with_reducible first | exact HB.out | apply aa | apply J | apply ab) | exact HB.out))) : w.heap.size ≤ cq)); have bp := ak ((by rw [hg]; exact (ay (by repeat (first | (with_reducible first | exact HB.out | apply aa | apply J | apply ab) | exact HB.out))) : w.heap.size ≤ cq)); clear HB; have HB := av; have cr := az; have mD := aR; have jS := bp; clear av az aR bp; clear hb hbox hg; have qL : js.cell? ⟨cq, 0, none⟩ = some (.int .u32 aH) := (aj cr.out 0).trans rfl; have qK : js.cell? ⟨cq, 1, none⟩ = some (.int .i64 aC) := (aj cr.out 1).trans rfl; have qJ := ah cr.out 0; have qI := ah cr.out 1)))
  go_ret
  exact ⟨by first | rfl | (simp [aq, ao] <;> rfl) | (simp [*, aq, ao] <;> rfl), by repeat (first | (with_reducible first | exact HB.out | apply aa | apply J | apply ab | refine ai ?_ jS.out) | exact HB.out)⟩
end Go.Proofs.YtndddnglapkplaaGreatDoor.V
end

section
namespace Go.Proofs.YtndddnglapkplaaGreatDoor.V
def sz (b : Nat) : Nat := 2 ^ (32 - b)
theorem vv (b : Nat) : 0 < sz b := Nat.two_pow_pos _
theorem CI (b : Nat) : sz b ≤ 4294967296 := by
 have : (2 : Nat) ^ (32 - b) ≤ 2 ^ 32 := Nat.pow_le_pow_right (by omega) (by omega)
 simpa [sz] using this
def cl (b : Int) : Nat := (if b < 0 then 0 else if 32 < b then 32 else b).toNat
theorem Oo (b : Int) : cl b ≤ 32 := by unfold cl; split <;> (try split) <;> omega
theorem Mi (b : Nat) (h : b ≤ 32) : cl (b : Int) = b := by unfold cl; rw [if_neg (by omega), if_neg (by omega)]; rfl
theorem Lf (b : Int) : fC.f b = some ((4294967296 - sz (cl b) : Nat) : Int) := by
 have h1 := vv (cl b); have h2 := CI (cl b)
 have e : (mn (mx b 0) 32) = (cl b : Int) := by
  unfold mn mx cl
  split <;> split <;> (try split) <;> (try split) <;> omega
 unfold fC.f
 rw [e, show ((32 : Int) - (cl b : Int)).toNat = 32 - cl b by have := Oo b; omega]
 have e2 : (2 : Int) ^ (32 - cl b) = (sz (cl b) : Int) := by unfold sz; simp
 rw [e2, wrap_u64 (sz (cl b) : Int) (by omega) (by omega), wrap_u64 _ (by omega) (by omega)]
 congr 1
 omega
theorem Kv (a b : Nat) (hb : b ≤ 32) : a &&& (4294967295 - (4294967296 - sz b)) = a % sz b := by
 have h1 := vv b; have h2 := CI b
 rw [show 4294967295 - (4294967296 - sz b) = 2 ^ (32 - b) - 1 by unfold sz at *; omega, Nat.and_two_pow_sub_one_eq_mod]
 rfl
def kG (a : Nat) (b : Int) : Bool := decide (0 ≤ b) && decide (b ≤ 32) && decide (a % sz b.toNat = 0)
theorem Ib (a : Nat) (ha : a < 4294967296) (b : Int) : db.f (a : Int) b = some (kG a b) := by
 unfold db.f kG
 by_cases h1 : b ≥ 0
 ·by_cases h2 : b ≤ 32
  ·obtain ⟨n, rfl⟩ : ∃ n : Nat, b = n := ⟨b.toNat, by omega⟩
   have hc := Mi n (by omega)
   have g1 := vv n; have g2 := CI n
   rw [if_pos h1, if_pos h2, Lf, Option.bind_some, hc, u32_andNot_nat a _ ha (by omega), Kv a n (by omega)]
   simp [show (0 : Int) ≤ (n : Int) by omega, h2]
   rw [Bool.eq_iff_iff]
   simp
   omega
  ·rw [if_pos h1, if_neg h2]; simp [h2]
 ·rw [if_neg h1]
  have : ¬ (0 ≤ b) := h1
  simp [this]
theorem K5 : ∀ (d k i : Nat) (n : Nat), i + d = n → n ≤ 32 → d + 1 ≤ k → cB.l0 k (n : Int) ((2 ^ i : Nat) : Int) (i : Int) = some ((2 ^ n : Nat) : Int) := by
 intro d
 induction d with
 | zero =>
  intro k i n hi hn hk
  obtain ⟨k, rfl⟩ : ∃ m, k = m + 1 := ⟨k - 1, by omega⟩
  obtain rfl : i = n := by omega
  rw [cB.l0, if_neg (by omega)]
 | succ d ih =>
  intro k i n hi hn hk
  obtain ⟨k, rfl⟩ : ∃ m, k = m + 1 := ⟨k - 1, by omega⟩
  have h2 : (2 : Nat) ^ i ≤ 2 ^ 32 := Nat.pow_le_pow_right (by omega) (by omega)
  have h3 : (2 : Nat) ^ 32 = 4294967296 := by decide
  have := ih k (i + 1) n (by omega) hn (by omega)
  rw [Nat.pow_succ, Nat.mul_comm] at this
  rw [h3] at h2
  clear h3
  generalize 2 ^ i = p at h2 this ⊢
  rw [cB.l0, if_pos (by omega), bM ((i : Int) + 1) (by omega) (by omega), bM (2 * (p : Int)) (by omega) (by omega)]
  exact this
theorem NU (n : Nat) (hn : n ≤ 32) (k : Nat) (hk : n + 1 ≤ k) : cB.f k (n : Int) = some ((2 ^ n : Nat) : Int) := K5 n k 0 n (by omega) hn hk
theorem Ed (a : Nat) (ha : a < 4294967296) (b : Int) (k : Nat) (hk : 33 ≤ k) : cU.f k (a : Int) b = some (kG a b) := by
 unfold cU.f kG
 by_cases h1 : b ≥ 0
 ·by_cases h2 : b ≤ 32
  ·obtain ⟨n, rfl⟩ : ∃ n : Nat, b = n := ⟨b.toNat, by omega⟩
   have g1 := vv n
   rw [if_pos h1, if_pos h2, bM _ (by omega) (by omega), show (32 : Int) - (n : Int) = ((32 - n : Nat) : Int) by omega, NU (32 - n) (by omega) k (by omega), Option.bind_some]
   have e : (2 : Nat) ^ (32 - n) = sz n := rfl
   rw [e, if_neg (by omega), bM (a : Int) (by omega) (by omega), show Int.tmod (a : Int) (sz n : Int) = ((a % sz n : Nat) : Int) from rfl]
   congr 1
   rw [Bool.eq_iff_iff]
   simp only [beq_iff_eq, Bool.and_eq_true, decide_eq_true_eq, Int.toNat_natCast]
   omega
  ·rw [if_pos h1, if_neg h2]; simp [h2]
 ·rw [if_neg h1]
  have : ¬ (0 ≤ b) := h1
  simp [this]
end Go.Proofs.YtndddnglapkplaaGreatDoor.V
end

section
namespace Go.Proofs.YtndddnglapkplaaGreatDoor.V
attribute [local go_sem] bI bG bP bO bw bu bH bF
def cd.f : Nat → Int → Option (ByteArray)
 | 0, _ => none
 | k + 1, a0 => if a0 < 10 then (some (strOfNums (([(wrap64 (48 + a0)) % 256] : List Int)))) else ((cd.f k (wrap64 (Int.tdiv a0 10))).bind fun hH => ((cd.f k (Int.tmod a0 10)).bind fun gJ => (if hH.size + gJ.size ≤ 9223372036854775807 then (some (hH ++ gJ)) else (none))))
theorem cd.mono_l : ∀ k, (∀ y0, cA (cd.f k y0) (cd.f (k + 1) y0))
 | 0 => fun _ r h => by simp [cd.f] at h
 | k + 1 => by
  have jg := cd.mono_l k
  ·intro y0
   unfold cd.f
   repeat' first
   | (with_reducible exact jg _)
   | (with_reducible exact cA.refl _)
   | (with_reducible exact cA.none _)
   | (with_reducible refine cA.ite ?_ ?_)
   | (with_reducible refine cA.bind ?_ (fun _ => ?_))
   | exact jg _
   | exact cA.none _
   | refine cA.ite ?_ ?_
   | refine cA.bind ?_ (fun _ => ?_)
theorem cd.mono : ∀ a0 k, cA (cd.f k a0) (cd.f (k + 1) a0) := by
 intro a0 k
 have jg := cd.mono_l k
 exact jg a0
set_option maxHeartbeats 8000000 in
set_option maxRecDepth 100000 in
theorem cd.calls (k : Nat) : ∀ (a0 : Int) (r : ByteArray) (w : World) (h : cd.f k a0 = some r),
  Calls Tryz.prog 133 #[.int .i64 a0] w fun e w' => e = .returned (.string r) ∧ Below w.heap.size w w' := by
 induction k using Nat.strongRecOn with
 | _ k ih =>
 intro a0 r w h
 cases k with
 | zero => exact absurd h (by simp [cd.f])
 | succ k =>
 simp only [cd.f] at h
 have HB := ak (Below.refl w.heap.size w)
 have H : (if a0 < 10 then (some (strOfNums (([(wrap64 (48 + a0)) % 256] : List Int)))) else ((cd.f k (wrap64 (Int.tdiv a0 10))).bind fun hH => ((cd.f k (Int.tmod a0 10)).bind fun gJ => (if hH.size + gJ.size ≤ 9223372036854775807 then (some (hH ++ gJ)) else (none))))) = some r := h
 clear h
 by_cases c2 : a0 < 10
 ·rw [if_pos c2] at H
  have gY : decide (a0 < 10) = true := decide_eq_true c2
  clear c2
  obtain ⟨Jc, oZ⟩ : ∃ y_ : List Int, y_ = (([(wrap64 (48 + a0)) % 256] : List Int)) := ⟨_, rfl⟩
  replace H : (some (strOfNums Jc)) = some r := by first | (rw [oZ]; with_reducible exact H) | (have iO := (Option.bind_some _ _).symm.trans H; rw [oZ]; with_reducible exact iO) | (have iO := (Option.bind_some _ _).symm.trans H; with_reducible exact iO) | with_reducible exact H | (rw [oZ]; exact H) | exact H
  have An := ak oZ
  clear oZ
  obtain rfl := Option.some.inj H
  go_enter Tryz.func133, Tryz.ntmps133
  go_wp2_with (first | ((with_reducible refine aA (N := 8) rfl ?_); refine Kd.R_lit (Kd.int .u8) _ 5 ?hg (N := 8) ?hd (xs := ([(wrap64 (48 + a0)) % 256] : List Int)) (inner := [.int .u8 ((wrap64 (48 + a0)) % 256)]) (ok := fun _ => True) (okp := fun _ => True) ?hr ?hp (fun _ hk => hk) trivial (Below.refl _ _) (Nat.le_refl _) (by simp) ?_; (case hd => rfl); (case hg => rfl); (case hr => first | (go_simp; done) | (go_simp; rfl)); (case hp => exact (ct.one (show Kd.M (Kd.int .u8) _ _ _ ((wrap64 (48 + a0)) % 256) [.int .u8 ((wrap64 (48 + a0)) % 256)] from rfl) (ct.none _ _))); intro Q1 w3 mm hb fG od; clear fG od; (first | rw [← An.out] at mm | (simp only [Int.reduceToNat] at mm; rw [← An.out] at mm)); have av := ak (Kd.R_lower mm (ay (by repeat (first | (with_reducible first | exact HB.out | apply aa | apply J | apply ab) | exact HB.out)))); have az := ak (au (by repeat (first | (with_reducible first | exact HB.out | apply aa | apply J | apply ab) | exact HB.out)) hb); clear HB; have G6 := av; have HB := az; clear av az; clear hb mm; have QC := ry (P := Tryz.prog) Tryz.underlying61 Tryz.underlying5 Tryz.underlying9 (Kd.own_of_R G6.out)))
  go_ret
  exact ⟨by first | rfl | (simp [aq, ao] <;> rfl) | (simp [*, aq, ao] <;> rfl), by repeat (first | (with_reducible first | exact HB.out | apply aa | apply J | apply ab) | exact HB.out)⟩
 ·rw [if_neg c2] at H
  have gY : decide (a0 < 10) = false := decide_eq_false c2
  clear c2
  replace H := Option.bind_eq_some_iff.mp H
  obtain ⟨hH, pZ, H⟩ := H
  replace H : ((cd.f k (Int.tmod a0 10)).bind fun gJ => (if hH.size + gJ.size ≤ 9223372036854775807 then (some (hH ++ gJ)) else (none))) = some r := H
  have A6 := ak pZ
  clear pZ
  replace H := Option.bind_eq_some_iff.mp H
  obtain ⟨gJ, pY, H⟩ := H
  replace H : (if hH.size + gJ.size ≤ 9223372036854775807 then (some (hH ++ gJ)) else (none)) = some r := H
  have A7 := ak pY
  clear pY
  by_cases c8 : hH.size + gJ.size ≤ 9223372036854775807
  ·rw [if_pos c8] at H
   have ma := eq_true c8
   have rK : decide (hH.size + gJ.size ≤ 9223372036854775807) = true := decide_eq_true c8
   try have Mk : (9223372036854775807 < hH.size + gJ.size) = False := eq_false (Nat.not_lt.2 c8)
   obtain rfl := Option.some.inj H
   go_enter Tryz.func133, Tryz.ntmps133
   go_wp2_with (first | ((with_reducible refine aD (f := 133) rfl ?_); refine bg (some 12) rfl rfl Tryz.func133 (by kernel_rfl) rfl #[.int .i64 (wrap64 (Int.tdiv a0 10))] rfl (by (try simp only [List.map_toArray, List.map_cons, List.map_nil]); first | done | rfl | (simp only [List.length_drop, List.length_take]; rfl)) ?_; (with_reducible refine (ih k (by omega) (wrap64 (Int.tdiv a0 10)) hH _ A6.out).mono ?_); rintro e w9 ⟨rfl, hb⟩; refine ⟨_, rfl, ?_⟩; have av := ak (au (by repeat (first | (with_reducible first | exact HB.out | apply aa | apply J | apply ab) | exact HB.out)) hb); clear HB; have HB := av; clear av; (try clear hb); (try clear bC); (try clear hk); (try clear hi)) | ((with_reducible refine aD (f := 133) rfl ?_); refine bg (some 15) rfl rfl Tryz.func133 (by kernel_rfl) rfl #[.int .i64 (Int.tmod a0 10)] rfl (by (try simp only [List.map_toArray, List.map_cons, List.map_nil]); first | done | rfl | (simp only [List.length_drop, List.length_take]; rfl)) ?_; (with_reducible refine (ih k (by omega) (Int.tmod a0 10) gJ _ A7.out).mono ?_); rintro e js ⟨rfl, hb⟩; refine ⟨_, rfl, ?_⟩; have av := ak (au (by repeat (first | (with_reducible first | exact HB.out | apply aa | apply J | apply ab) | exact HB.out)) hb); clear HB; have HB := av; clear av; (try clear hb); (try clear bC); (try clear hk); (try clear hi)))
   go_ret
   exact ⟨by first | rfl | (simp [aq, ao] <;> rfl) | (simp [*, aq, ao] <;> rfl), by repeat (first | (with_reducible first | exact HB.out | apply aa | apply J | apply ab) | exact HB.out)⟩
  ·rw [if_neg c8] at H
   exact absurd H (by simp)
end Go.Proofs.YtndddnglapkplaaGreatDoor.V
end

section
namespace Go.Proofs.YtndddnglapkplaaGreatDoor.V
attribute [local go_sem] bI bG bP bO bw bu bH bF
def dP.f (k : Nat) (aH : Int) (aC : Int) : Option (ByteArray) := (db.f aH aC).bind fun oo => (if oo = true then ((jo.f aH).bind fun dz => (if dz.size + 1 ≤ 9223372036854775807 then ((cd.f k aC).bind fun eG => (if (dz ++ (⟨#[47]⟩ : ByteArray)).size + eG.size ≤ 9223372036854775807 then (some ((dz ++ (⟨#[47]⟩ : ByteArray)) ++ eG)) else (none))) else (none))) else (some (⟨#[]⟩ : ByteArray)))
def dP.T3 : Bool × List (List Nat × List Nat) := (true, [([], []), ([0], [0]), ([1], [1]), ([2], [2]), ([], []), ([4], [4]), ([5, 2], [5]), ([3, 6], [3, 6]), ([7, 6, 0, 1, 2, 3, 4, 5, 6, 7], [7])])
def dP.B3 : List Nat := [0, 1, 3, 7, 0, 16, 55, 127, 255]
theorem dP.tab3 : dS .any (opsOf Tryz.f124 3) = dP.T3 := by kernel_rfl
theorem dP.bits3 : ew dP.T3.2 dP.B3 = true := by kernel_rfl
set_option maxHeartbeats 8000000 in
set_option maxRecDepth 100000 in
theorem dP.calls (k : Nat) (aH : Int) (aC : Int) (r : ByteArray) (w : World) (h : dP.f k aH aC = some r) :
  Calls Tryz.prog 124 #[.agg #[.int .u32 aH, .int .i64 aC]] w fun e w' => e = .returned (.string r) ∧ Below w.heap.size w w' := by
 have uH := Tryz.underlying67
 have HB := ak (Below.refl w.heap.size w)
 have H : ((db.f aH aC).bind fun oo => (if oo = true then ((jo.f aH).bind fun dz => (if dz.size + 1 ≤ 9223372036854775807 then ((cd.f k aC).bind fun eG => (if (dz ++ (⟨#[47]⟩ : ByteArray)).size + eG.size ≤ 9223372036854775807 then (some ((dz ++ (⟨#[47]⟩ : ByteArray)) ++ eG)) else (none))) else (none))) else (some (⟨#[]⟩ : ByteArray)))) = some r := h
 clear h
 replace H := Option.bind_eq_some_iff.mp H
 obtain ⟨oo, ek, H⟩ := H
 replace H : (if oo = true then ((jo.f aH).bind fun dz => (if dz.size + 1 ≤ 9223372036854775807 then ((cd.f k aC).bind fun eG => (if (dz ++ (⟨#[47]⟩ : ByteArray)).size + eG.size ≤ 9223372036854775807 then (some ((dz ++ (⟨#[47]⟩ : ByteArray)) ++ eG)) else (none))) else (none))) else (some (⟨#[]⟩ : ByteArray))) = some r := H
 have A2 := ak ek
 clear ek
 by_cases c3 : oo = true
 ·subst c3
  have H1 : ((jo.f aH).bind fun dz => (if dz.size + 1 ≤ 9223372036854775807 then ((cd.f k aC).bind fun eG => (if (dz ++ (⟨#[47]⟩ : ByteArray)).size + eG.size ≤ 9223372036854775807 then (some ((dz ++ (⟨#[47]⟩ : ByteArray)) ++ eG)) else (none))) else (none))) = some r := by rw [if_pos rfl] at H; exact H
  clear H
  have H := H1
  clear H1
  replace H := Option.bind_eq_some_iff.mp H
  obtain ⟨dz, mF, H⟩ := H
  replace H : (if dz.size + 1 ≤ 9223372036854775807 then ((cd.f k aC).bind fun eG => (if (dz ++ (⟨#[47]⟩ : ByteArray)).size + eG.size ≤ 9223372036854775807 then (some ((dz ++ (⟨#[47]⟩ : ByteArray)) ++ eG)) else (none))) else (none)) = some r := H
  have A4 := ak mF
  clear mF
  by_cases c5 : dz.size + 1 ≤ 9223372036854775807
  ·rw [if_pos c5] at H
   have mb := eq_true c5
   have sS : decide (dz.size + 1 ≤ 9223372036854775807) = true := decide_eq_true c5
   try have QN : (9223372036854775807 < dz.size + 1) = False := eq_false (Nat.not_lt.2 c5)
   replace H := Option.bind_eq_some_iff.mp H
   obtain ⟨eG, pZ, H⟩ := H
   replace H : (if (dz ++ (⟨#[47]⟩ : ByteArray)).size + eG.size ≤ 9223372036854775807 then (some ((dz ++ (⟨#[47]⟩ : ByteArray)) ++ eG)) else (none)) = some r := H
   have A6 := ak pZ
   clear pZ
   by_cases c7 : (dz ++ (⟨#[47]⟩ : ByteArray)).size + eG.size ≤ 9223372036854775807
   ·rw [if_pos c7] at H
    have nn := eq_true c7
    have uN : decide ((dz ++ (⟨#[47]⟩ : ByteArray)).size + eG.size ≤ 9223372036854775807) = true := decide_eq_true c7
    try have Mm : (9223372036854775807 < (dz ++ (⟨#[47]⟩ : ByteArray)).size + eG.size) = False := eq_false (Nat.not_lt.2 c7)
    try have zN : ¬ 9223372036854775807 < dz.size + 1 + eG.size := by have h_ := c7; simp only [ByteArray.size_append] at h_; exact Nat.not_lt.2 h_
    try have Ml := eq_false zN
    obtain rfl := Option.some.inj H
    go_enter Tryz.func124, Tryz.ntmps124
    try go_wp2_with (first | ((with_reducible refine aA (N := 1) rfl ?_); refine bl ?hg (N := 1) ?hd (cs := #[.int .u32 aH, .int .i64 aC]) (t := 67) ?hr ?_; (case hd => rfl); (case hg => rfl); (case hr => first | (go_simp; done) | (go_simp; rfl)); intro fM hg w8 hbox hb; have av := ak (au (by repeat (first | (with_reducible first | exact HB.out | apply aa | apply J | apply ab) | exact HB.out)) hb); have az := ak (hbox); have aR := ak ((by rw [hg]; exact (ay (by repeat (first | (with_reducible first | exact HB.out | apply aa | apply J | apply ab) | exact HB.out))) : w.heap.size ≤ fM)); have bp := ak ((by rw [hg]; exact (ay (by repeat (first | (with_reducible first | exact HB.out | apply aa | apply J | apply ab) | exact HB.out))) : w.heap.size ≤ fM)); clear HB; have HB := av; have cZ := az; have Hl := aR; have mc := bp; clear av az aR bp; clear hb hbox hg; have sG : w8.cell? ⟨fM, 0, none⟩ = some (.int .u32 aH) := (aj cZ.out 0).trans rfl; have sF : w8.cell? ⟨fM, 1, none⟩ = some (.int .i64 aC) := (aj cZ.out 1).trans rfl; have sE := ah cZ.out 0; have sD := ah cZ.out 1) | ((with_reducible refine aD (f := 75) rfl ?_); refine bg (some 4) rfl rfl Tryz.func75 (by kernel_rfl) rfl #[.agg #[.int .u32 aH, .int .i64 aC]] rfl (by (try simp only [List.map_toArray, List.map_cons, List.map_nil]); first | done | rfl | (simp only [List.length_drop, List.length_take]; rfl)) ?_; (with_reducible refine (db.calls aH aC true _ A2.out).mono ?_); rintro e js ⟨rfl, hb⟩; refine ⟨_, rfl, ?_⟩; have av := ak (aU (g := fM) (o := .cells #[.int .u32 aH, .int .i64 aC] 67 (0, 0)) (by (with_reducible repeat (first | refine ae ?_ _ | refine ag ?_ | refine af ?_ _)); exact cZ.out) hb); have az := ak (au (by repeat (first | (with_reducible first | exact HB.out | apply aa | apply J | apply ab | refine ai ?_ mc.out) | exact HB.out)) hb); clear cZ; clear HB; have cZ := av; have HB := az; clear av az; (try clear hb); (try clear bC); (try clear hk); (try clear hi)))
    have av := ak (ag cZ.out)
    have az := ak (ab HB.out)
    clear cZ
    clear HB
    have cZ := av
    have HB := az
    clear av az
    refine ee (n := 9) (S := fun w' => w'.cell? ⟨fM, 0, none⟩ = some (.int .u32 aH) ∧ w'.cell? ⟨fM, 1, none⟩ = some (.int .i64 aC)) (ds := []) #[false, false, false, false, false, false, false, false, false] (by kernel_rfl) rfl rfl ⟨(aj cZ.out 0).trans rfl, (aj cZ.out 1).trans rfl⟩ (fun hHeld => ?_); refine cV dP.tab3 dP.bits3 (fun an cj => ?_)
    generalize js.drew = rQ at cZ HB hHeld ⊢
    refine pu 0 an.out ?_
    refine pu 4 an.out ?_
    refine take_ (i := 1) (N := some 7) (v := ?_) (a' := ?_) #[true, true, false, false, true, false, false, false, false] rfl rfl (cn an.out cj.out (by kernel_rfl)) (fun _ _ _ h => h) (Or.inl ⟨by rfl, ?_⟩) hHeld ?_ ?_
    rotate_left
    ·rintro w' ⟨s0, s1⟩
     go_simp
     with_reducible rfl
    rotate_left
    ·simp only [Act.put, List.setIfInBounds_toArray, List.set_cons_zero, List.set_cons_succ, cp, cL]
     rfl
    refine take_ (i := 5) (N := some 11) (v := ?_) (a' := ?_) #[true, true, false, false, true, true, false, false, false] rfl rfl (cn an.out cj.out (by kernel_rfl)) (fun _ _ _ h => h) (Or.inl ⟨by rfl, ?_⟩) hHeld ?_ ?_
    rotate_left
    ·rintro w' ⟨s0, s1⟩
     go_simp
     with_reducible rfl
    rotate_left
    ·simp only [Act.put, List.setIfInBounds_toArray, List.set_cons_zero, List.set_cons_succ, cp, cL]
     rfl
    refine on 2 an.out (fun K hK => ?_)
    refine lY Tryz.func132 (by kernel_rfl) rfl #[.int .u32 aH] (by rfl) rfl rfl (by (try simp only [List.map_toArray, List.map_cons, List.map_nil]); first | done | rfl | (simp only [List.length_drop, List.length_take]; rfl)) ?_
    with_reducible refine (jo.calls aH dz _ A4.out).mono ?_
    rintro e u4 ⟨rfl, hb⟩
    refine ⟨_, rfl, ?_⟩
    have av := ak (aU (g := fM) (o := .cells #[.int .u32 aH, .int .i64 aC] 67 (0, 0)) (by (with_reducible repeat (first | refine ae ?_ _ | refine ag ?_ | refine af ?_ _)); exact cZ.out) hb)
    have az := ak (au (by repeat (first | (with_reducible first | exact HB.out | apply aa | apply J | apply ab | refine ai ?_ mc.out) | exact HB.out)) hb)
    clear cZ
    clear HB
    have cZ := av
    have HB := az
    clear av az
    (try clear hb)
    (try clear bC)
    (try clear hk)
    (try clear hi)
    refine kn hK ⟨(aj cZ.out 0).trans rfl, (aj cZ.out 1).trans rfl⟩ (fun hHeld => ?_)
    clear hK K
    refine pu 3 an.out ?_
    refine on 6 an.out (fun K hK => ?_)
    refine lY Tryz.func133 (by kernel_rfl) rfl #[.int .i64 aC] (by rfl) rfl rfl (by (try simp only [List.map_toArray, List.map_cons, List.map_nil]); first | done | rfl | (simp only [List.length_drop, List.length_take]; rfl)) ?_
    with_reducible refine (cd.calls k aC eG _ A6.out).mono ?_
    rintro e oJ ⟨rfl, hb⟩
    refine ⟨_, rfl, ?_⟩
    have av := ak (aU (g := fM) (o := .cells #[.int .u32 aH, .int .i64 aC] 67 (0, 0)) (by (with_reducible repeat (first | refine ae ?_ _ | refine ag ?_ | refine af ?_ _)); exact cZ.out) hb)
    have az := ak (au (by repeat (first | (with_reducible first | exact HB.out | apply aa | apply J | apply ab | refine ai ?_ mc.out) | exact HB.out)) hb)
    clear cZ
    clear HB
    have cZ := av
    have HB := az
    clear av az
    (try clear hb)
    (try clear bC)
    (try clear hk)
    (try clear hi)
    refine kn hK ⟨(aj cZ.out 0).trans rfl, (aj cZ.out 1).trans rfl⟩ (fun hHeld => ?_)
    clear hK K
    refine pu 7 an.out ?_
    refine pu 8 an.out ?_
    refine dn an.out ?_
    try go_wp2
    go_ret
    exact ⟨by first | rfl | (simp [aq, ao] <;> rfl) | (simp [*, aq, ao] <;> rfl), by repeat (first | (with_reducible first | exact HB.out | apply aa | apply J | apply ab | refine ai ?_ mc.out) | exact HB.out)⟩
   ·rw [if_neg c7] at H
    exact absurd H (by simp)
  ·rw [if_neg c5] at H
   exact absurd H (by simp)
 ·replace c3 := Bool.eq_false_iff.mpr c3
  subst c3
  have H1 : (some (⟨#[]⟩ : ByteArray)) = some r := by rw [if_neg (show ¬ (false = true) by decide)] at H; exact H
  clear H
  have H := H1
  clear H1
  obtain rfl := Option.some.inj H
  go_enter Tryz.func124, Tryz.ntmps124
  go_wp2_with (first | ((with_reducible refine aA (N := 1) rfl ?_); refine bl ?hg (N := 1) ?hd (cs := #[.int .u32 aH, .int .i64 aC]) (t := 67) ?hr ?_; (case hd => rfl); (case hg => rfl); (case hr => first | (go_simp; done) | (go_simp; rfl)); intro fM hg xq hbox hb; have av := ak (au (by repeat (first | (with_reducible first | exact HB.out | apply aa | apply J | apply ab) | exact HB.out)) hb); have az := ak (hbox); have aR := ak ((by rw [hg]; exact (ay (by repeat (first | (with_reducible first | exact HB.out | apply aa | apply J | apply ab) | exact HB.out))) : w.heap.size ≤ fM)); have bp := ak ((by rw [hg]; exact (ay (by repeat (first | (with_reducible first | exact HB.out | apply aa | apply J | apply ab) | exact HB.out))) : w.heap.size ≤ fM)); clear HB; have HB := av; have cZ := az; have Hl := aR; have mc := bp; clear av az aR bp; clear hb hbox hg; have Ka : xq.cell? ⟨fM, 0, none⟩ = some (.int .u32 aH) := (aj cZ.out 0).trans rfl; have J9 : xq.cell? ⟨fM, 1, none⟩ = some (.int .i64 aC) := (aj cZ.out 1).trans rfl; have JP := ah cZ.out 0; have JO := ah cZ.out 1) | ((with_reducible refine aD (f := 75) rfl ?_); refine bg (some 4) rfl rfl Tryz.func75 (by kernel_rfl) rfl #[.agg #[.int .u32 aH, .int .i64 aC]] rfl (by (try simp only [List.map_toArray, List.map_cons, List.map_nil]); first | done | rfl | (simp only [List.length_drop, List.length_take]; rfl)) ?_; (with_reducible refine (db.calls aH aC false _ A2.out).mono ?_); rintro e DP ⟨rfl, hb⟩; refine ⟨_, rfl, ?_⟩; have av := ak (aU (g := fM) (o := .cells #[.int .u32 aH, .int .i64 aC] 67 (0, 0)) (by (with_reducible repeat (first | refine ae ?_ _ | refine ag ?_ | refine af ?_ _)); exact cZ.out) hb); have az := ak (au (by repeat (first | (with_reducible first | exact HB.out | apply aa | apply J | apply ab | refine ai ?_ mc.out) | exact HB.out)) hb); clear cZ; clear HB; have cZ := av; have HB := az; clear av az; (try clear hb); (try clear bC); (try clear hk); (try clear hi)))
  go_ret
  exact ⟨by first | rfl | (simp [aq, ao] <;> rfl) | (simp [*, aq, ao] <;> rfl), by repeat (first | (with_reducible first | exact HB.out | apply aa | apply J | apply ab | refine ai ?_ mc.out) | exact HB.out)⟩
end Go.Proofs.YtndddnglapkplaaGreatDoor.V
end

section
namespace Go.Proofs.YtndddnglapkplaaGreatDoor.V
attribute [local go_sem] bI bG bP bO bw bu bH bF
def eo.f (k : Nat) (a0 : Int) : Option (ByteArray) := (aI.f k a0).bind fun qo => (some qo)
set_option maxHeartbeats 8000000 in
set_option maxRecDepth 100000 in
theorem eo.calls (k : Nat) (a0 : Int) (r : ByteArray) (w : World) (h : eo.f k a0 = some r) :
  Calls Tryz.prog 73 #[.int .i64 a0] w fun e w' => e = .returned (.string r) ∧ Below w.heap.size w w' := by
 have HB := ak (Below.refl w.heap.size w)
 have H : ((aI.f k a0).bind fun qo => (some qo)) = some r := h
 clear h
 replace H := Option.bind_eq_some_iff.mp H
 obtain ⟨qo, ek, H⟩ := H
 replace H : (some qo) = some r := H
 have A2 := ak ek
 clear ek
 obtain rfl := Option.some.inj H
 go_enter Tryz.func73, Tryz.ntmps73
 go_wp2_with (first | ((with_reducible refine aD (f := 104) rfl ?_); refine bg (some 4) rfl rfl Tryz.func104 (by kernel_rfl) rfl #[.int .i64 a0] rfl (by (try simp only [List.map_toArray, List.map_cons, List.map_nil]); first | done | rfl | (simp only [List.length_drop, List.length_take]; rfl)) ?_; (with_reducible refine (aI.calls k a0 qo _ A2.out).mono ?_); rintro e w3 ⟨rfl, hb⟩; refine ⟨_, rfl, ?_⟩; have av := ak (au (by repeat (first | (with_reducible first | exact HB.out | apply aa | apply J | apply ab) | exact HB.out)) hb); clear HB; have HB := av; clear av; (try clear hb); (try clear bC); (try clear hk); (try clear hi)))
 go_ret
 exact ⟨by first | rfl | (simp [aq, ao] <;> rfl) | (simp [*, aq, ao] <;> rfl), by repeat (first | (with_reducible first | exact HB.out | apply aa | apply J | apply ab) | exact HB.out)⟩
end Go.Proofs.YtndddnglapkplaaGreatDoor.V
end

section
namespace Go.Proofs.YtndddnglapkplaaGreatDoor.V
attribute [local go_sem] bI bG bP bO bw bu bH bF
def cW.f (k : Nat) (aH : Int) (aC : Int) : Option (ByteArray) := (cU.f k aH aC).bind fun qu => (if qu = true then ((ec.f k aH).bind fun ed => (if ed.size + 1 ≤ 9223372036854775807 then ((eo.f k aC).bind fun fq => (if (ed ++ (⟨#[47]⟩ : ByteArray)).size + fq.size ≤ 9223372036854775807 then (some ((ed ++ (⟨#[47]⟩ : ByteArray)) ++ fq)) else (none))) else (none))) else (some (⟨#[]⟩ : ByteArray)))
def cW.T3 : Bool × List (List Nat × List Nat) := (true, [([], []), ([0], [0]), ([1], [1]), ([2], [2]), ([], []), ([4], [4]), ([5, 2], [5]), ([3, 6], [3, 6]), ([7, 6, 0, 1, 2, 3, 4, 5, 6, 7], [7])])
def cW.B3 : List Nat := [0, 1, 3, 7, 0, 16, 55, 127, 255]
theorem cW.tab3 : dS .any (opsOf Tryz.f44 3) = cW.T3 := by kernel_rfl
theorem cW.bits3 : ew cW.T3.2 cW.B3 = true := by kernel_rfl
set_option maxHeartbeats 8000000 in
set_option maxRecDepth 100000 in
theorem cW.calls (k : Nat) (aH : Int) (aC : Int) (r : ByteArray) (w : World) (h : cW.f k aH aC = some r) :
  Calls Tryz.prog 44 #[.agg #[.int .u32 aH, .int .i64 aC]] w fun e w' => e = .returned (.string r) ∧ Below w.heap.size w w' := by
 have Ls := Tryz.underlying43
 have HB := ak (Below.refl w.heap.size w)
 have H : ((cU.f k aH aC).bind fun qu => (if qu = true then ((ec.f k aH).bind fun ed => (if ed.size + 1 ≤ 9223372036854775807 then ((eo.f k aC).bind fun fq => (if (ed ++ (⟨#[47]⟩ : ByteArray)).size + fq.size ≤ 9223372036854775807 then (some ((ed ++ (⟨#[47]⟩ : ByteArray)) ++ fq)) else (none))) else (none))) else (some (⟨#[]⟩ : ByteArray)))) = some r := h
 clear h
 replace H := Option.bind_eq_some_iff.mp H
 obtain ⟨qu, ek, H⟩ := H
 replace H : (if qu = true then ((ec.f k aH).bind fun ed => (if ed.size + 1 ≤ 9223372036854775807 then ((eo.f k aC).bind fun fq => (if (ed ++ (⟨#[47]⟩ : ByteArray)).size + fq.size ≤ 9223372036854775807 then (some ((ed ++ (⟨#[47]⟩ : ByteArray)) ++ fq)) else (none))) else (none))) else (some (⟨#[]⟩ : ByteArray))) = some r := H
 have A2 := ak ek
 clear ek
 by_cases c3 : qu = true
 ·subst c3
  have H1 : ((ec.f k aH).bind fun ed => (if ed.size + 1 ≤ 9223372036854775807 then ((eo.f k aC).bind fun fq => (if (ed ++ (⟨#[47]⟩ : ByteArray)).size + fq.size ≤ 9223372036854775807 then (some ((ed ++ (⟨#[47]⟩ : ByteArray)) ++ fq)) else (none))) else (none))) = some r := by rw [if_pos rfl] at H; exact H
  clear H
  have H := H1
  clear H1
  replace H := Option.bind_eq_some_iff.mp H
  obtain ⟨ed, mF, H⟩ := H
  replace H : (if ed.size + 1 ≤ 9223372036854775807 then ((eo.f k aC).bind fun fq => (if (ed ++ (⟨#[47]⟩ : ByteArray)).size + fq.size ≤ 9223372036854775807 then (some ((ed ++ (⟨#[47]⟩ : ByteArray)) ++ fq)) else (none))) else (none)) = some r := H
  have A4 := ak mF
  clear mF
  by_cases c5 : ed.size + 1 ≤ 9223372036854775807
  ·rw [if_pos c5] at H
   have mb := eq_true c5
   have sS : decide (ed.size + 1 ≤ 9223372036854775807) = true := decide_eq_true c5
   try have QN : (9223372036854775807 < ed.size + 1) = False := eq_false (Nat.not_lt.2 c5)
   replace H := Option.bind_eq_some_iff.mp H
   obtain ⟨fq, pZ, H⟩ := H
   replace H : (if (ed ++ (⟨#[47]⟩ : ByteArray)).size + fq.size ≤ 9223372036854775807 then (some ((ed ++ (⟨#[47]⟩ : ByteArray)) ++ fq)) else (none)) = some r := H
   have A6 := ak pZ
   clear pZ
   by_cases c7 : (ed ++ (⟨#[47]⟩ : ByteArray)).size + fq.size ≤ 9223372036854775807
   ·rw [if_pos c7] at H
    have nn := eq_true c7
    have uN : decide ((ed ++ (⟨#[47]⟩ : ByteArray)).size + fq.size ≤ 9223372036854775807) = true := decide_eq_true c7
    try have Mm : (9223372036854775807 < (ed ++ (⟨#[47]⟩ : ByteArray)).size + fq.size) = False := eq_false (Nat.not_lt.2 c7)
    try have zN : ¬ 9223372036854775807 < ed.size + 1 + fq.size := by have h_ := c7; simp only [ByteArray.size_append] at h_; exact Nat.not_lt.2 h_
    try have Ml := eq_false zN
    obtain rfl := Option.some.inj H
    go_enter Tryz.func44, Tryz.ntmps44
    try go_wp2_with (first | ((with_reducible refine aA (N := 1) rfl ?_); refine bl ?hg (N := 1) ?hd (cs := #[.int .u32 aH, .int .i64 aC]) (t := 43) ?hr ?_; (case hd => rfl); (case hg => rfl); (case hr => first | (go_simp; done) | (go_simp; rfl)); intro gN hg w8 hbox hb; have av := ak (au (by repeat (first | (with_reducible first | exact HB.out | apply aa | apply J | apply ab) | exact HB.out)) hb); have az := ak (hbox); have aR := ak ((by rw [hg]; exact (ay (by repeat (first | (with_reducible first | exact HB.out | apply aa | apply J | apply ab) | exact HB.out))) : w.heap.size ≤ gN)); have bp := ak ((by rw [hg]; exact (ay (by repeat (first | (with_reducible first | exact HB.out | apply aa | apply J | apply ab) | exact HB.out))) : w.heap.size ≤ gN)); clear HB; have HB := av; have dm := az; have KF := aR; have nx := bp; clear av az aR bp; clear hb hbox hg; have sG : w8.cell? ⟨gN, 0, none⟩ = some (.int .u32 aH) := (aj dm.out 0).trans rfl; have sF : w8.cell? ⟨gN, 1, none⟩ = some (.int .i64 aC) := (aj dm.out 1).trans rfl; have sE := ah dm.out 0; have sD := ah dm.out 1) | ((with_reducible refine aD (f := 49) rfl ?_); refine bg (some 4) rfl rfl Tryz.func49 (by kernel_rfl) rfl #[.agg #[.int .u32 aH, .int .i64 aC]] rfl (by (try simp only [List.map_toArray, List.map_cons, List.map_nil]); first | done | rfl | (simp only [List.length_drop, List.length_take]; rfl)) ?_; (with_reducible refine (cU.calls k aH aC true _ A2.out).mono ?_); rintro e js ⟨rfl, hb⟩; refine ⟨_, rfl, ?_⟩; have av := ak (aU (g := gN) (o := .cells #[.int .u32 aH, .int .i64 aC] 43 (0, 0)) (by (with_reducible repeat (first | refine ae ?_ _ | refine ag ?_ | refine af ?_ _)); exact dm.out) hb); have az := ak (au (by repeat (first | (with_reducible first | exact HB.out | apply aa | apply J | apply ab | refine ai ?_ nx.out) | exact HB.out)) hb); clear dm; clear HB; have dm := av; have HB := az; clear av az; (try clear hb); (try clear bC); (try clear hk); (try clear hi)))
    have av := ak (ag dm.out)
    have az := ak (ab HB.out)
    clear dm
    clear HB
    have dm := av
    have HB := az
    clear av az
    refine ee (n := 9) (S := fun w' => w'.cell? ⟨gN, 0, none⟩ = some (.int .u32 aH) ∧ w'.cell? ⟨gN, 1, none⟩ = some (.int .i64 aC)) (ds := []) #[false, false, false, false, false, false, false, false, false] (by kernel_rfl) rfl rfl ⟨(aj dm.out 0).trans rfl, (aj dm.out 1).trans rfl⟩ (fun hHeld => ?_); refine cV cW.tab3 cW.bits3 (fun an cj => ?_)
    generalize js.drew = rQ at dm HB hHeld ⊢
    refine pu 0 an.out ?_
    refine pu 4 an.out ?_
    refine take_ (i := 1) (N := some 7) (v := ?_) (a' := ?_) #[true, true, false, false, true, false, false, false, false] rfl rfl (cn an.out cj.out (by kernel_rfl)) (fun _ _ _ h => h) (Or.inl ⟨by rfl, ?_⟩) hHeld ?_ ?_
    rotate_left
    ·rintro w' ⟨s0, s1⟩
     go_simp
     with_reducible rfl
    rotate_left
    ·simp only [Act.put, List.setIfInBounds_toArray, List.set_cons_zero, List.set_cons_succ, cp, cL]
     rfl
    refine take_ (i := 5) (N := some 11) (v := ?_) (a' := ?_) #[true, true, false, false, true, true, false, false, false] rfl rfl (cn an.out cj.out (by kernel_rfl)) (fun _ _ _ h => h) (Or.inl ⟨by rfl, ?_⟩) hHeld ?_ ?_
    rotate_left
    ·rintro w' ⟨s0, s1⟩
     go_simp
     with_reducible rfl
    rotate_left
    ·simp only [Act.put, List.setIfInBounds_toArray, List.set_cons_zero, List.set_cons_succ, cp, cL]
     rfl
    refine on 2 an.out (fun K hK => ?_)
    refine lY Tryz.func72 (by kernel_rfl) rfl #[.int .u32 aH] (by rfl) rfl rfl (by (try simp only [List.map_toArray, List.map_cons, List.map_nil]); first | done | rfl | (simp only [List.length_drop, List.length_take]; rfl)) ?_
    with_reducible refine (ec.calls k aH ed _ A4.out).mono ?_
    rintro e u4 ⟨rfl, hb⟩
    refine ⟨_, rfl, ?_⟩
    have av := ak (aU (g := gN) (o := .cells #[.int .u32 aH, .int .i64 aC] 43 (0, 0)) (by (with_reducible repeat (first | refine ae ?_ _ | refine ag ?_ | refine af ?_ _)); exact dm.out) hb)
    have az := ak (au (by repeat (first | (with_reducible first | exact HB.out | apply aa | apply J | apply ab | refine ai ?_ nx.out) | exact HB.out)) hb)
    clear dm
    clear HB
    have dm := av
    have HB := az
    clear av az
    (try clear hb)
    (try clear bC)
    (try clear hk)
    (try clear hi)
    refine kn hK ⟨(aj dm.out 0).trans rfl, (aj dm.out 1).trans rfl⟩ (fun hHeld => ?_)
    clear hK K
    refine pu 3 an.out ?_
    refine on 6 an.out (fun K hK => ?_)
    refine lY Tryz.func73 (by kernel_rfl) rfl #[.int .i64 aC] (by rfl) rfl rfl (by (try simp only [List.map_toArray, List.map_cons, List.map_nil]); first | done | rfl | (simp only [List.length_drop, List.length_take]; rfl)) ?_
    with_reducible refine (eo.calls k aC fq _ A6.out).mono ?_
    rintro e oJ ⟨rfl, hb⟩
    refine ⟨_, rfl, ?_⟩
    have av := ak (aU (g := gN) (o := .cells #[.int .u32 aH, .int .i64 aC] 43 (0, 0)) (by (with_reducible repeat (first | refine ae ?_ _ | refine ag ?_ | refine af ?_ _)); exact dm.out) hb)
    have az := ak (au (by repeat (first | (with_reducible first | exact HB.out | apply aa | apply J | apply ab | refine ai ?_ nx.out) | exact HB.out)) hb)
    clear dm
    clear HB
    have dm := av
    have HB := az
    clear av az
    (try clear hb)
    (try clear bC)
    (try clear hk)
    (try clear hi)
    refine kn hK ⟨(aj dm.out 0).trans rfl, (aj dm.out 1).trans rfl⟩ (fun hHeld => ?_)
    clear hK K
    refine pu 7 an.out ?_
    refine pu 8 an.out ?_
    refine dn an.out ?_
    try go_wp2
    go_ret
    exact ⟨by first | rfl | (simp [aq, ao] <;> rfl) | (simp [*, aq, ao] <;> rfl), by repeat (first | (with_reducible first | exact HB.out | apply aa | apply J | apply ab | refine ai ?_ nx.out) | exact HB.out)⟩
   ·rw [if_neg c7] at H
    exact absurd H (by simp)
  ·rw [if_neg c5] at H
   exact absurd H (by simp)
 ·replace c3 := Bool.eq_false_iff.mpr c3
  subst c3
  have H1 : (some (⟨#[]⟩ : ByteArray)) = some r := by rw [if_neg (show ¬ (false = true) by decide)] at H; exact H
  clear H
  have H := H1
  clear H1
  obtain rfl := Option.some.inj H
  go_enter Tryz.func44, Tryz.ntmps44
  go_wp2_with (first | ((with_reducible refine aA (N := 1) rfl ?_); refine bl ?hg (N := 1) ?hd (cs := #[.int .u32 aH, .int .i64 aC]) (t := 43) ?hr ?_; (case hd => rfl); (case hg => rfl); (case hr => first | (go_simp; done) | (go_simp; rfl)); intro gN hg xq hbox hb; have av := ak (au (by repeat (first | (with_reducible first | exact HB.out | apply aa | apply J | apply ab) | exact HB.out)) hb); have az := ak (hbox); have aR := ak ((by rw [hg]; exact (ay (by repeat (first | (with_reducible first | exact HB.out | apply aa | apply J | apply ab) | exact HB.out))) : w.heap.size ≤ gN)); have bp := ak ((by rw [hg]; exact (ay (by repeat (first | (with_reducible first | exact HB.out | apply aa | apply J | apply ab) | exact HB.out))) : w.heap.size ≤ gN)); clear HB; have HB := av; have dm := az; have KF := aR; have nx := bp; clear av az aR bp; clear hb hbox hg; have Ka : xq.cell? ⟨gN, 0, none⟩ = some (.int .u32 aH) := (aj dm.out 0).trans rfl; have J9 : xq.cell? ⟨gN, 1, none⟩ = some (.int .i64 aC) := (aj dm.out 1).trans rfl; have JP := ah dm.out 0; have JO := ah dm.out 1) | ((with_reducible refine aD (f := 49) rfl ?_); refine bg (some 4) rfl rfl Tryz.func49 (by kernel_rfl) rfl #[.agg #[.int .u32 aH, .int .i64 aC]] rfl (by (try simp only [List.map_toArray, List.map_cons, List.map_nil]); first | done | rfl | (simp only [List.length_drop, List.length_take]; rfl)) ?_; (with_reducible refine (cU.calls k aH aC false _ A2.out).mono ?_); rintro e DP ⟨rfl, hb⟩; refine ⟨_, rfl, ?_⟩; have av := ak (aU (g := gN) (o := .cells #[.int .u32 aH, .int .i64 aC] 43 (0, 0)) (by (with_reducible repeat (first | refine ae ?_ _ | refine ag ?_ | refine af ?_ _)); exact dm.out) hb); have az := ak (au (by repeat (first | (with_reducible first | exact HB.out | apply aa | apply J | apply ab | refine ai ?_ nx.out) | exact HB.out)) hb); clear dm; clear HB; have dm := av; have HB := az; clear av az; (try clear hb); (try clear bC); (try clear hk); (try clear hi)))
  go_ret
  exact ⟨by first | rfl | (simp [aq, ao] <;> rfl) | (simp [*, aq, ao] <;> rfl), by repeat (first | (with_reducible first | exact HB.out | apply aa | apply J | apply ab | refine ai ?_ nx.out) | exact HB.out)⟩
end Go.Proofs.YtndddnglapkplaaGreatDoor.V
end

section
namespace Go.Proofs.YtndddnglapkplaaGreatDoor.V
theorem GH : ((List.range 33).all fun n => decide (cd.f 4 (n : Int) = some (eK n))) = true := by kernel_rfl
theorem Mj (n : Nat) (hn : n < 33) (k : Nat) (hk : 4 ≤ k) : cd.f k (n : Int) = some (eK n) :=
 up (fun k => cd.f k (n : Int)) (cd.mono _) hk (by have := List.all_eq_true.1 GH n (List.mem_range.2 hn); simpa using this)
def dL (a : Nat) (b : Int) : ByteArray := if kG a b = true then jf a ++ (⟨#[47]⟩ : ByteArray) ++ eK b.toNat else ⟨#[]⟩
theorem lQ (a : Nat) : (jf a).size ≤ 15 := by
 have := rT a
 unfold jf
 simpa [ByteArray.size] using this
theorem tG {a : Nat} {b : Int} (h : kG a b = true) : ∃ n : Nat, b = n ∧ n ≤ 32 ∧ a % sz n = 0 := by
 simp only [kG, Bool.and_eq_true, decide_eq_true_eq] at h
 exact ⟨b.toNat, by omega, by omega, h.2⟩
theorem BA (a : Nat) (ha : a < 4294967296) (b : Int) (k : Nat) (hk : 4 ≤ k) : dP.f k (a : Int) b = some (dL a b) := by
 unfold dP.f dL
 rw [Ib a ha, Option.bind_some]
 cases hm : kG a b with
 | false => rfl
 | true =>
  obtain ⟨n, rfl, hn, hd⟩ := tG hm
  have hp : jo.f (a : Int) = some (jf a) := by unfold jo.f; rw [if_pos (by omega)]; rfl
  have h1 := lQ a; have h2 := k5 n
  rw [if_pos rfl, hp, Option.bind_some, if_pos (by omega), Mj n (by omega) k hk, Option.bind_some, if_pos (by rw [ByteArray.size_append, oU]; omega)]
  rfl
theorem KY (n : Nat) (hn : n < 256) (k : Nat) (hk : 4 ≤ k) : eo.f k (n : Int) = some (eK n) := by
 unfold eo.f
 rw [tC n hn k hk]
 rfl
theorem Eb (a : Nat) (ha : a < 4294967296) (b : Int) (k : Nat) (hk : 40 ≤ k) : cW.f k (a : Int) b = some (dL a b) := by
 unfold cW.f dL
 rw [Ed a ha b k (by omega), Option.bind_some]
 cases hm : kG a b with
 | false => rfl
 | true =>
  obtain ⟨n, rfl, hn, hd⟩ := tG hm
  have h1 := lQ a; have h2 := k5 n
  rw [if_pos rfl, FI a ha k (by omega), Option.bind_some, if_pos (by omega), KY n (by omega) k (by omega), Option.bind_some, if_pos (by rw [ByteArray.size_append, oU]; omega)]
  rfl
def kF (b : ByteArray) : Nat → Int
 | 0 => 0
 | j + 1 => 10 * kF b j + bt b (j : Int) - 48
def kK (s : ByteArray) : Int × Int × Int :=
 if (cN 47 s).2.2 = true ∧ (gj (cN 47 s).1).2 = 0 ∧ 1 ≤ (cN 47 s).2.1.size ∧ (cN 47 s).2.1.size ≤ 2 ∧ dL (gj (cN 47 s).1).1.toNat (kF (cN 47 s).2.1 (cN 47 s).2.1.size) = s
 then ((gj (cN 47 s).1).1, kF (cN 47 s).2.1 (cN 47 s).2.1.size, 0) else (0, 0, 3)
end Go.Proofs.YtndddnglapkplaaGreatDoor.V
end

section
namespace Go.Proofs.YtndddnglapkplaaGreatDoor.V
theorem sw (c : UInt8) (y : List UInt8) : ∀ x : List UInt8, c ∉ x → Lib.indexByte (x ++ c :: y) c = (x.length : Int)
 | [], _ => by simp [Lib.indexByte]
 | b :: x, h => by
  have h1 : ¬ b = c := fun e => h (by simp [e])
  have ih := sw c y x (fun e => h (by simp [e]))
  rw [List.cons_append, Lib.indexByte, ih]
  have n1 : ¬ ((x.length : Int) = -1) := by omega
  simp [h1, n1]
theorem qd (c : UInt8) : ∀ (l : List UInt8) (i : Nat), Lib.indexByte l c = (i : Int) → l = l.take i ++ c :: l.drop (i + 1) ∧ c ∉ l.take i ∧ i < l.length
 | [], i, h => by simp [Lib.indexByte] at h
 | b :: l, i, h => by
  rw [Lib.indexByte] at h
  by_cases hb : b = c
  ·subst hb
   simp at h
   obtain rfl : i = 0 := by omega
   simp
  ·have hb' : (b == c) = false := by simpa using hb
   rw [hb'] at h
   simp only [Bool.false_eq_true, if_false] at h
   by_cases hm : Lib.indexByte l c = -1
   ·simp [hm] at h
   ·have hg := Lib.indexByte_ge l c
    have hm' : (Lib.indexByte l c == -1) = false := by simpa using hm
    rw [hm'] at h
    simp only [Bool.false_eq_true, if_false] at h
    obtain ⟨j, rfl⟩ : ∃ j, i = j + 1 := ⟨i - 1, by omega⟩
    obtain ⟨h1, h2, h3⟩ := qd c l j (by omega)
    refine ⟨by rw [List.take_succ_cons, List.drop_succ_cons, List.cons_append, ← h1], ?_, by simp; omega⟩
    rw [List.take_succ_cons]
    intro hc
    rcases List.mem_cons.1 hc with h | h
    ·exact hb h.symm
    ·exact h2 h
theorem uM (c : UInt8) (s : ByteArray) (h : (cN c s).2.2 = true) : s.data.toList = (cN c s).1.data.toList ++ c :: (cN c s).2.1.data.toList ∧ c ∉ (cN c s).1.data.toList := by
 unfold cN at h ⊢
 by_cases hm : Lib.indexByte s.data.toList c = -1
 ·rw [if_pos hm] at h; cases h
 ·rw [if_neg hm]
  have hg := Lib.indexByte_ge s.data.toList c
  obtain ⟨i, hi⟩ : ∃ i : Nat, Lib.indexByte s.data.toList c = i := ⟨(Lib.indexByte s.data.toList c).toNat, by omega⟩
  obtain ⟨h1, h2, h3⟩ := qd c _ i hi
  rw [hi]
  simp only [Int.toNat_natCast, Lib.extract_from_zero, Lib.extract_to_end]
  exact ⟨h1, h2⟩
theorem sR (c : UInt8) (s : ByteArray) (x y : List UInt8) (h : s.data.toList = x ++ c :: y) (hx : c ∉ x) : (cN c s).1.data.toList = x ∧ (cN c s).2.1.data.toList = y ∧ (cN c s).2.2 = true := by
 have hi := sw c y x hx
 rw [← h] at hi
 unfold cN
 rw [if_neg (by omega), hi]
 simp only [Int.toNat_natCast, Lib.extract_from_zero, Lib.extract_to_end, h]
 refine ⟨by simp, ?_, trivial⟩
 rw [List.drop_append]
 simp
theorem vX (c : UInt8) : ∀ l : List UInt8, [c].intercalate (cutAt c l) = l
 | [] => rfl
 | b :: l => by
  have ih := vX c l
  unfold cutAt
  by_cases h : b = c
  ·subst h
   rw [if_pos rfl]
   cases hc : cutAt b l with
   | nil => exact absurd hc (rJ b l)
   | cons p r =>
    rw [hc] at ih
    simp [List.intercalate] at ih ⊢
    exact ih
  ·rw [if_neg h]
   cases hc : cutAt c l with
   | nil => exact absurd hc (rJ c l)
   | cons p r =>
    rw [hc] at ih
    cases r with
    | nil => simp [List.intercalate] at ih ⊢; exact ih
    | cons q r => simp [List.intercalate] at ih ⊢; exact ih
theorem Fh (a b c d : Nat) (ha : a < 256) (hb : b < 256) (hc : c < 256) (hd : d < 256) :
  bU (((a * 256 + b) * 256 + c) * 256 + d) 0 = a ∧ bU (((a * 256 + b) * 256 + c) * 256 + d) 1 = b ∧ bU (((a * 256 + b) * 256 + c) * 256 + d) 2 = c ∧ bU (((a * 256 + b) * 256 + c) * 256 + d) 3 = d := by
 unfold bU
 simp only [Nat.sub_zero, Nat.sub_self]
 omega
theorem uF {l : List UInt8} {v : Nat} (h : kV l = some v) : l = kW v ∧ v < 4294967296 := by
 unfold kV at h
 have hj := vX 46 l
 generalize cutAt 46 l = ps at h hj
 match ps, h with
 | [p, q, r, t], h =>
  simp only [jv] at h
  obtain ⟨x, hx, h2⟩ := Option.bind_eq_some_iff.1 h
  obtain ⟨y, hy, h3⟩ := Option.bind_eq_some_iff.1 h2
  obtain ⟨z, hz, h4⟩ := Option.bind_eq_some_iff.1 h3
  obtain ⟨u, hu, h5⟩ := Option.bind_eq_some_iff.1 h4
  have hv := Option.some.inj h5
  clear h h2 h3 h4 h5
  obtain ⟨x1, rfl⟩ := eU hx
  obtain ⟨y1, rfl⟩ := eU hy
  obtain ⟨z1, rfl⟩ := eU hz
  obtain ⟨u1, rfl⟩ := eU hu
  have hb := Fh x y z u x1 y1 z1 u1
  rw [hv] at hb
  refine ⟨?_, by omega⟩
  rw [← hj]
  unfold kW
  rw [hb.1, hb.2.1, hb.2.2.1, hb.2.2.2]
  simp [List.intercalate]
theorem vJ (v : Nat) (c : UInt8) (hc : c < 46 ∨ 57 < c ∨ c = 47) : c ∉ kW v := by
 have hn := fun i => wX (bU v i) (jW v i) c (by
  rcases hc with h | h | h
  ·exact .inl (by simp only [UInt8.lt_iff_toNat_lt] at h ⊢; have : (46 : UInt8).toNat = 46 := rfl; have : (48 : UInt8).toNat = 48 := rfl; omega)
  ·exact .inr h
  ·subst h; exact .inl (by decide))
 have LW : c ≠ 46 := by
  rintro rfl
  rcases hc with h | h | h
  ·exact absurd h (by decide)
  ·exact absurd h (by decide)
  ·exact absurd h (by decide)
 unfold kW
 simp only [List.mem_append, List.mem_cons, not_or]
 exact ⟨hn 0, LW, hn 1, LW, hn 2, LW, hn 3⟩
def l8 (s : ByteArray) : Option (Nat × Nat) := if (cN 47 s).2.2 = true then (kV (cN 47 s).1.data.toList).bind fun v => (byteOf (cN 47 s).2.1.data.toList).bind fun n => if n ≤ 32 ∧ v % sz n = 0 then some (v, n) else none else none
theorem vD {v n : Nat} (hn : n ≤ 32) (hd : v % sz n = 0) : kG v (n : Int) = true := by
 simp [kG, hd]
 omega
theorem iK {v n : Nat} (hn : n ≤ 32) (hd : v % sz n = 0) : (dL v (n : Int)).data.toList = kW v ++ 47 :: eE n := by
 unfold dL
 rw [if_pos (vD hn hd), Int.toNat_natCast]
 simp [iC, pK]
theorem F9 : ((List.range 33).all fun n => decide (kF (eK n) (eK n).size = (n : Int)) && decide (1 ≤ (eK n).size) && decide ((eK n).size ≤ 2)) = true := by kernel_rfl
theorem fy {s t : ByteArray} (h : s.data.toList = t.data.toList) : s = t := ByteArray.ext (Array.ext' h)
theorem oT {s : ByteArray} {v n : Nat} (h : l8 s = some (v, n)) : v < 4294967296 ∧ n ≤ 32 ∧ v % sz n = 0 ∧ s = dL v (n : Int) ∧ (cN 47 s).2.2 = true ∧ (cN 47 s).1 = jf v ∧ (cN 47 s).2.1 = eK n := by
 unfold l8 at h
 by_cases hc : (cN 47 s).2.2 = true
 ·rw [if_pos hc] at h
  obtain ⟨v', hv, h⟩ := Option.bind_eq_some_iff.1 h
  obtain ⟨n', hn, h⟩ := Option.bind_eq_some_iff.1 h
  split at h
  ·rename_i hg
   have e := Option.some.inj h
   obtain ⟨rfl, rfl⟩ := Prod.mk.inj e
   obtain ⟨g1, g2⟩ := uF hv
   obtain ⟨g3, g4⟩ := eU hn
   obtain ⟨g5, g6⟩ := uM 47 s hc
   refine ⟨g2, hg.1, hg.2, fy ?_, hc, fy ?_, tI g4⟩
   ·rw [iK hg.1 hg.2, g5, g1, g4]
   ·rw [g1, iC]
  ·cases h
 ·rw [if_neg hc] at h; cases h
theorem xC {v n : Nat} (hv : v < 4294967296) (hn : n ≤ 32) (hd : v % sz n = 0) : l8 (dL v (n : Int)) = some (v, n) := by
 obtain ⟨h1, h2, h3⟩ := sR 47 (dL v (n : Int)) (kW v) (eE n) (iK hn hd) (vJ v 47 (.inr (.inr rfl)))
 unfold l8
 rw [if_pos h3, h1, h2, xH v hv, Option.bind_some, lS n (by omega), Option.bind_some, if_pos ⟨hn, hd⟩]
theorem GG (s : ByteArray) : kK s = match l8 s with | some (v, n) => ((v : Int), (n : Int), 0) | none => (0, 0, 3) := by
 cases h : l8 s with
 | some q =>
  obtain ⟨v, n⟩ := q
  obtain ⟨h1, h2, h3, h4, h5, h6, h7⟩ := oT h
  have hall := List.all_eq_true.1 F9 n (List.mem_range.2 (by omega))
  simp only [Bool.and_eq_true, decide_eq_true_eq] at hall
  unfold kK
  rw [h5, h6, h7, AZ v h1, hall.1.1, Int.toNat_natCast, if_pos ⟨rfl, rfl, hall.1.2, hall.2, h4.symm⟩]
 | none =>
  unfold kK
  rw [if_neg]
  rintro ⟨h1, h2, h3, h4, h5⟩
  have hp : ∃ v : Nat, kV (cN 47 s).1.data.toList = some v ∧ (gj (cN 47 s).1).1 = (v : Int) := by
   unfold gj at h2 ⊢
   cases hi : kV (cN 47 s).1.data.toList with
   | some v => exact ⟨v, rfl, rfl⟩
   | none => rw [hi] at h2; simp at h2
  obtain ⟨v, hv, e⟩ := hp
  rw [e, Int.toNat_natCast] at h5
  obtain ⟨g1, g2⟩ := uF hv
  cases hm : kG v (kF (cN 47 s).2.1 (cN 47 s).2.1.size) with
  | false =>
   unfold dL at h5
   rw [hm] at h5
   obtain ⟨g5, _⟩ := uM 47 s h1
   rw [← h5] at g5
   simp at g5
  | true =>
   obtain ⟨m, iu, EP, UP⟩ := tG hm
   rw [iu] at h5
   have := xC g2 EP UP
   rw [h5, h] at this
   cases this
theorem CO : ((List.range 33).all fun n => decide (aJ.f 12 (eK n) 32 = some ((n : Int), true))) = true := by kernel_rfl
theorem FG (s : ByteArray) (hs : s.size < 4611686018427387904) (k : Nat) (hk : s.size + 12 ≤ k) : aJ.f k s 32 = some (match byteOf s.data.toList with | some n => if n ≤ 32 then ((n : Int), true) else (0, false) | none => (0, false)) := by
 have hno : (∀ n, byteOf s.data.toList = some n → 32 < n) → aJ.f k s 32 = some (0, false) := by
  intro hno
  obtain ⟨r, h1, h2, h3⟩ := Bz s hs 32 (by omega) s.size k 0 0 (by omega) (by omega) (by omega) (by omega) (by omega)
  unfold aJ.f
  have e : r = (0, false) := by
   cases hr : r.2 with
   | false => rw [← h3 hr, ← hr]
   | true =>
    obtain ⟨n, hn, xO, e⟩ := h2 hr
    have := hno n (by rw [e, lS n hn])
    omega
  rw [← e]
  exact h1
 cases hb : byteOf s.data.toList with
 | some n =>
  obtain ⟨h1, h2⟩ := eU hb
  by_cases hn : n ≤ 32
  ·have e := tI h2
   subst e
   simp only [hn, if_true]
   refine up (fun k => aJ.f k (eK n) 32) (aJ.mono _ _) (show 12 ≤ k by omega) ?_
   have := List.all_eq_true.1 CO n (List.mem_range.2 (by omega))
   simpa using this
  ·simp only [hn, if_false]
   exact hno (fun m hm => by rw [hb] at hm; cases hm; omega)
 | none => exact hno (fun m hm => by rw [hb] at hm; cases hm)
end Go.Proofs.YtndddnglapkplaaGreatDoor.V
end

section
namespace Go.Proofs.YtndddnglapkplaaGreatDoor.V
def rI (v n : Nat) : List UInt8 := kW v ++ 45 :: eE n
def cY (v n : Nat) : ByteArray := ⟨(rI v n).toArray⟩
theorem j7 (v n : Nat) : (cY v n).data.toList = rI v n := by simp [cY]
theorem Gi (v : Nat) : (45 : UInt8) ∉ kW v := vJ v 45 (.inl (by decide))
theorem GD (v n : Nat) : (cN 45 (cY v n)).1.data.toList = kW v ∧ (cN 45 (cY v n)).2.1.data.toList = eE n ∧ (cN 45 (cY v n)).2.2 = true :=
 sR 45 (cY v n) (kW v) (eE n) (j7 v n) (Gi v)
def je (s : ByteArray) : Option (Nat × Nat) := (l8 ((cN 45 s).1 ++ (⟨#[47]⟩ : ByteArray) ++ (cN 45 s).2.1)).bind fun q => if cY q.1 q.2 = s then some q else none
theorem qb {s : ByteArray} {v n : Nat} (h : je s = some (v, n)) : v < 4294967296 ∧ n ≤ 32 ∧ v % sz n = 0 ∧ s = cY v n := by
 unfold je at h
 obtain ⟨q, h1, h2⟩ := Option.bind_eq_some_iff.1 h
 split at h2
 ·rename_i he
  obtain rfl := Option.some.inj h2
  obtain ⟨g1, g2, g3, _⟩ := oT h1
  exact ⟨g1, g2, g3, he.symm⟩
 ·cases h2
theorem sq {v n : Nat} (hv : v < 4294967296) (hn : n ≤ 32) (hd : v % sz n = 0) : je (cY v n) = some (v, n) := by
 obtain ⟨h1, h2, h3⟩ := GD v n
 have e : (cN 45 (cY v n)).1 ++ (⟨#[47]⟩ : ByteArray) ++ (cN 45 (cY v n)).2.1 = dL v (n : Int) := by
  apply fy
  rw [iK hn hd]
  simp [h1, h2]
 unfold je
 rw [e, xC hv hn hd, Option.bind_some, if_pos rfl]
theorem j6 (v n : Nat) : (cY v n).size ≤ 19 := by
 have h := lQ v; have h2 := kC n
 have e : (kW v).length = (jf v).size := by rw [← iC, cw]
 have : (cY v n).size = (rI v n).length := by rw [← j7, cw]
 rw [this]
 unfold rI
 simp
 omega
theorem DT {v n : Nat} (hn : n ≤ 32) (hd : v % sz n = 0) : Lib.indexByte (dL v (n : Int)).data.toList 47 = ((kW v).length : Int) ∧
  (dL v (n : Int)).data.toList.take (kW v).length ++ 45 :: (dL v (n : Int)).data.toList.drop ((kW v).length + 1) = rI v n := by
 rw [iK hn hd]
 refine ⟨sw 47 (eE n) (kW v) (vJ v 47 (.inr (.inr rfl))), ?_⟩
 unfold rI
 rw [List.take_left]
 congr 2
 rw [List.drop_append]
 simp
end Go.Proofs.YtndddnglapkplaaGreatDoor.V
end

section
namespace Go.Proofs.YtndddnglapkplaaGreatDoor.V
def zM (s : ByteArray) (i : Nat) : ByteArray := ⟨(s.data.toList.take i ++ 45 :: s.data.toList.drop (i + 1)).toArray⟩
set_option maxHeartbeats 4000000 in
set_option maxRecDepth 100000 in
theorem AY (s : ByteArray) (i : Nat) (hs : s.size < 1000000) (hi : Lib.indexByte s.data.toList 47 = i) (w : World) :
  Calls Tryz.prog 125 #[.string s, .string ⟨#[47]⟩, .string ⟨#[45]⟩, .int .i64 1] w fun e w' => e = .returned (.string (zM s i)) ∧ Below w.heap.size w w' := by
 obtain ⟨hsp, hno, hil⟩ := qd 47 s.data.toList i hi
 rw [cw] at hil
 obtain ⟨n, hn, mo⟩ : ∃ n : Nat, Lib.countByte s.data.toList 47 = n ∧ 1 ≤ n := by
  refine ⟨_, rfl, ?_⟩
  show 1 ≤ List.count 47 s.data.toList
  rw [hsp]
  simp
  omega
 have hcz : ((n : Int) == 0) = false := beq_eq_false_iff_ne.2 (by omega)
 have hcl : decide ((n : Int) < 1) = false := by simp; omega
 have c1 : (0 : Int) ≤ (i : Int) := by omega
 have c2 : (i : Int) ≤ (s.size : Int) := by omega
 have c3 : (0 : Int) ≤ (i : Int) + 1 := by omega
 have c4 : (i : Int) + 1 ≤ (s.size : Int) := by omega
 have HI := ak hi
 have HN := ak hn
 have HX := ak hsp
 have HL := ak hil
 clear hi hn hsp hno
 go_enter Tryz.func125, Tryz.ntmps125
 go_wp2_with (first | (go_at_call 134; refine (Tryz.strings_Count_one s 47 _).mono ?_; rintro e w' ⟨rfl, hw⟩; rw [hw, HN.out]))
 refine (Any.Builder_Grow_fresh { Tryz.lays154 with } Tryz.Builder_Extra_154 w.heap.size w.heap.size _ _ (Nat.le_refl _) (heap_alloc_new w _) (by simp) (by omega)).mono ?_
 rintro e w1 ⟨rfl, iv, aW⟩
 have H1 := ak (Or.inr iv : Lib.IsBuilder 205 5 w.heap.size w.heap.size (Lib.byteCells []) w1)
 have VM := ak (((Below.refl w.heap.size w).alloc (Nat.le_refl _) _).trans aW)
 clear iv aW
 go_wp2_with fail
 go_loopg [11, 53] 1 (fun g Ux Uw wx => ∃ (i0 start : Nat) (acc : List UInt8), Uw = .int .i64 i0 ∧ Ux = .int .i64 start ∧ i0 + g = 1 ∧ start ≤ s.size ∧ acc.length + (s.size - start) ≤ 140737488355328 ∧ Aside0 (Lib.IsBuilder 205 5 w.heap.size w.heap.size (Lib.byteCells acc) wx) ∧ Aside0 (Below w.heap.size w wx) ∧ Aside0 ((i0 = 0 ∧ start = 0 ∧ acc = []) ∨ (i0 = 1 ∧ start = i + 1 ∧ acc = s.data.toList.take i ++ [45])))
 case atStart => exact ⟨0, 0, [], rfl, rfl, by omega, Nat.zero_le _, by simp; omega, H1, VM, ⟨.inl ⟨rfl, rfl, rfl⟩⟩⟩
 case round =>
  obtain ⟨i0, start, acc, rfl, rfl, hig, hst, hal, HB, HW, HR⟩ := hrel
  have hBw : w.heap.size ≤ wr.heap.size := HW.out.size
  have b1 : (0 : Int) ≤ (start : Int) := by omega
  have b2 : (start : Int) ≤ (s.size : Int) := by omega
  cases gk with
  | zero =>
   have hiK : ¬ ((i0 : Int) < 1) := by omega
   have HA := ak (show acc ++ s.data.toList.drop start = s.data.toList.take i ++ 45 :: s.data.toList.drop (i + 1) by
    rcases HR.out with ⟨h, _, _⟩ | ⟨_, h1, h2⟩
    ·omega
    ·rw [h1, h2]; simp)
   go_wp2_with fail
   refine (Any.Builder_WriteString { Tryz.lays154 with } Tryz.Builder_Extra_154 w.heap.size w.heap.size _ _ wr HB.out (by rw [Lib.byteCells_length, ByteArray.size_extract]; omega) hBw).mono ?_
   rintro e w3 ⟨rfl, h3, gP⟩
   rw [Lib.strCells_eq, Lib.extract_to_end, ← Lib.byteCells_append] at h3
   rw [HA.out] at h3
   have H3 := ak (Or.inr h3 : Lib.IsBuilder 205 5 w.heap.size w.heap.size _ w3)
   have IY := ak (HW.out.trans gP)
   have Gu : w.heap.size ≤ w3.heap.size := IY.out.size
   clear h3 gP
   go_wp2_with fail
   refine (Any.Builder_String_any { Tryz.lays154 with } Tryz.Builder_Extra_154 w.heap.size w.heap.size _ w3 H3.out Gu).mono ?_
   rintro e w5 ⟨rfl, zz⟩
   have VK := ak (IY.out.trans zz)
   clear zz
   go_wp2
   go_ret
   exact ⟨rfl, VK.out⟩
  | succ g =>
   have hiK : (i0 : Int) < 1 := by omega
   have HE := ak (show i0 = 0 ∧ start = 0 ∧ acc = [] by
    rcases HR.out with h | ⟨h, _, _⟩
    ·exact h
    ·omega)
   have HJ := ak (show Lib.indexByte (s.extract start s.size).data.toList 47 = i by rw [Lib.extract_to_end, HE.out.2.1, List.drop_zero]; exact HI.out)
   have b3 : (start : Int) ≤ (start : Int) + (i : Int) := by omega
   have b4 : (start : Int) + (i : Int) ≤ (s.size : Int) := by have := HE.out.2.1; omega
   have HZ := ak (show acc.length = 0 by rw [HE.out.2.2]; rfl)
   go_wp2_with (first | (go_at_call 136; refine (Tryz.strings_Index_one _ 47 _).mono ?_; rintro e w' ⟨rfl, hw⟩; rw [hw, HJ.out]))
   refine (Any.Builder_WriteString { Tryz.lays154 with } Tryz.Builder_Extra_154 w.heap.size w.heap.size _ (s.extract start (start + i)) wr HB.out (by rw [Lib.byteCells_length, ByteArray.size_extract]; have := HE.out.2.1; have := HZ.out; omega) hBw).mono ?_
   rintro e w3 ⟨rfl, h3, gP⟩
   have Gu : w.heap.size ≤ w3.heap.size := Nat.le_trans hBw gP.size
   have H3 := ak h3
   have IY := ak gP
   clear h3 gP
   go_wp2_with fail
   refine (Any.Builder_WriteString { Tryz.lays154 with } Tryz.Builder_Extra_154 w.heap.size w.heap.size _ ⟨#[45]⟩ w3 (Or.inr H3.out) (by rw [List.length_append, Lib.byteCells_length, Lib.strCells_length, ByteArray.size_extract, show (⟨#[45]⟩ : ByteArray).size = 1 from rfl]; have := HE.out.2.1; have := HZ.out; omega) Gu).mono ?_
   rintro e w4 ⟨rfl, h4, iQ⟩
   rw [Lib.strCells_eq, Lib.strCells_eq, Lib.extract_data, Nat.add_sub_cancel_left, ← Lib.byteCells_append, ← Lib.byteCells_append] at h4
   rw [show acc ++ (s.data.toList.drop start).take i ++ (⟨#[45]⟩ : ByteArray).data.toList = s.data.toList.take i ++ [45] by rw [HE.out.2.1, HE.out.2.2]; simp] at h4
   have H4 := ak (Or.inr h4 : Lib.IsBuilder 205 5 w.heap.size w.heap.size _ w4)
   have VL := ak ((HW.out.trans IY.out).trans iQ)
   clear h4 iQ
   go_wp2
   go_roundg g
   case measure => omega
   case rel => exact ⟨i0 + 1, start + i + 1, _, by first | rfl | (simp; unfold wrap64; omega), by first | rfl | simp | (simp; unfold wrap64; omega), by omega, by have := HE.out.2.1; omega, by have := HE.out.2.1; simp; omega, H4, VL, ⟨.inr ⟨by have := HE.out.1; omega, by have := HE.out.2.1; omega, rfl⟩⟩⟩
def strings_Replace.f (a0 a1 a2 : ByteArray) (a3 : Int) : Option ByteArray := if a0.size < 1000000 ∧ a1 = ⟨#[47]⟩ ∧ a2 = ⟨#[45]⟩ ∧ a3 = 1 ∧ 0 ≤ Lib.indexByte a0.data.toList 47 then some (zM a0 (Lib.indexByte a0.data.toList 47).toNat) else none
theorem strings_Replace.calls (a0 a1 a2 : ByteArray) (a3 : Int) (r : ByteArray) (w : World) (h : strings_Replace.f a0 a1 a2 a3 = some r) :
  Calls Tryz.prog 125 #[.string a0, .string a1, .string a2, .int .i64 a3] w fun e w' => e = .returned (.string r) ∧ Below w.heap.size w w' := by
 unfold strings_Replace.f at h
 split at h
 ·rename_i hg
  obtain ⟨g1, rfl, rfl, rfl, g5⟩ := hg
  obtain rfl := Option.some.inj h
  exact AY a0 _ g1 (by omega) w
 ·cases h
def strings_Cut.f (a0 a1 : ByteArray) : Option (ByteArray × ByteArray × Bool) := if a0.size < 4294967281 then match a1.data.toList with | [c] => some (cN c a0) | _ => none else none
theorem strings_Cut.calls (a0 a1 r1 r2 : ByteArray) (r3 : Bool) (w : World) (h : strings_Cut.f a0 a1 = some (r1, r2, r3)) :
  Calls Tryz.prog 91 #[.string a0, .string a1] w fun e w' => e = .returned (.tuple #[.string r1, .string r2, .bool r3]) ∧ Below w.heap.size w w' := by
 unfold strings_Cut.f at h
 split at h
 ·rename_i hz
  split at h
  ·rename_i c hc
   have e := Option.some.inj h
   have ha : a1 = ⟨#[c]⟩ := fy (by rw [hc])
   subst ha
   refine (BW a0 c w hz).mono fun e' w' ⟨h1, ⟨m, h2⟩⟩ => ⟨?_, ?_⟩
   ·rw [h1, e]
   ·rw [h2]; exact J (Below.refl _ _) _
  ·cases h
 ·cases h
end Go.Proofs.YtndddnglapkplaaGreatDoor.V
end

section
namespace Go.Proofs.YtndddnglapkplaaGreatDoor.V
theorem Gh {ps : List (List UInt8)} {v : Nat} (h : jv ps = some v) : v < 4294967296 := by
 have lt : ∀ p x, byteOf p = some x → x < 256 := fun p x h => (eU h).1
 match ps, h with
 | [a, b, c, d], h =>
  simp only [jv] at h
  obtain ⟨x, hx, h⟩ := Option.bind_eq_some_iff.1 h
  obtain ⟨y, hy, h⟩ := Option.bind_eq_some_iff.1 h
  obtain ⟨z, hz, h⟩ := Option.bind_eq_some_iff.1 h
  obtain ⟨u, hu, h⟩ := Option.bind_eq_some_iff.1 h
  have := lt _ _ hx; have := lt _ _ hy; have := lt _ _ hz; have := lt _ _ hu
  have := Option.some.inj h
  omega
theorem yT (s : ByteArray) : (∃ v : Nat, v < 4294967296 ∧ kV s.data.toList = some v ∧ gj s = ((v : Int), 0)) ∨ (kV s.data.toList = none ∧ gj s = (0, 3)) := by
 unfold gj
 cases h : kV s.data.toList with
 | some v => exact .inl ⟨v, Gh h, rfl, rfl⟩
 | none => exact .inr ⟨rfl, rfl⟩
theorem pM (c : UInt8) (s : ByteArray) : (cN c s).1.size ≤ s.size ∧ (cN c s).2.1.size ≤ s.size := by
 unfold cN
 split
 ·exact ⟨Nat.le_refl _, Nat.zero_le _⟩
 ·simp only [ByteArray.size_extract]
  omega
def jV.T9 : Bool × List (List Nat × List Nat) := (true, [([], []), ([0], [0]), ([1], [1]), ([], []), ([], []), ([3, 4], [3, 4]), ([5], [5]), ([2, 6], [2, 6]), ([7], [7]), ([0, 1, 2, 3, 4, 5, 6, 7, 8], []), ([9, 8, 0, 1, 2, 3, 4, 5, 6, 7, 8], [8, 9])])
def jV.B9 : List Nat := [0, 1, 3, 0, 0, 24, 56, 127, 255, 511, 1023]
theorem jV.tab9 : dS .any (opsOf Tryz.f111 9) = jV.T9 := by kernel_rfl
theorem jV.bits9 : ew jV.T9.2 jV.B9 = true := by kernel_rfl
set_option maxHeartbeats 4000000 in
set_option maxRecDepth 100000 in
theorem Dd (s : ByteArray) (hs : s.size < 4294967281) (w : World) :
  Calls Tryz.prog 111 #[.string s] w fun e w' => e = .returned (.tuple #[.agg #[.int .u32 (kK s).1, .int .i64 (kK s).2.1], .int .i64 (kK s).2.2]) ∧ Below w.heap.size w w' := by
 have hcut := fun w => BW s 47 w hs
 have hsz := pM 47 s
 have hR : kK s = kK s := rfl
 conv at hR => rhs; unfold kK
 generalize cN 47 s = q at hcut hsz hR
 obtain ⟨a, b, ok⟩ := q
 have hpar := fun w => Ej a (by simp at hsz; omega) w
 have hpc := yT a
 generalize gj a = pr at hpar hpc hR
 obtain ⟨ad, er⟩ := pr
 simp only at hcut hpar hR
 by_cases hgood : ok = true ∧ er = 0 ∧ 1 ≤ b.size ∧ b.size ≤ 2
 ·obtain ⟨rfl, rfl, aW, bC⟩ := hgood
  obtain ⟨v, hv, rfl⟩ : ∃ v : Nat, v < 4294967296 ∧ ad = v := by
   rcases hpc with ⟨v, hv, _, e⟩ | ⟨_, e⟩
   ·exact ⟨v, hv, by simpa using (Prod.mk.inj e).1⟩
   ·simp at e
  have HP := ak (BA v hv (kF b b.size) 8 (by omega))
  have HV := ak hv
  have iv : (b.toList == ([] : List UInt8)) = false := by
   rw [Lib.toList_data]
   cases hd : b.data.toList with
   | nil => have := cw b; rw [hd] at this; simp at this; omega
   | cons x l => rfl
  have QI : decide ((b.size : Int) > 2) = false := by simp; omega
  go_enter Tryz.func111, Tryz.ntmps111
  go_wp2_with (first
   | (refine a6 (some 2) rfl rfl 67 rfl [.int .u32 0, .int .i64 0] (fun _ => by kernel_rfl) ?_; intro g2 W2 dH fx l9)
   | (refine a6 (some 9) rfl rfl 67 rfl [.int .u32 0, .int .i64 0] (fun _ => by kernel_rfl) ?_; intro g9 W5 dp pk C8)
   | (refine aM rfl 67 (.tmp 9) (.tmp 39) rfl g9 [.int .u32 (v : Int), .int .i64 0] rfl rfl _ _ pk 2 (by kernel_rfl) rfl rfl (by intro x hx; simp at hx; rcases hx with rfl | rfl <;> rfl) ?_; intro W6 lT jF)
   | (go_at_call 91; refine (hcut _).mono ?_; rintro e W3 ⟨rfl, ⟨nd, rfl⟩⟩)
   | (go_at_call 123; refine (hpar _).mono ?_; rintro e W4 ⟨rfl, iQ⟩))
  have Qy := fx.lt
  have hne : g2 ≠ g9 := by have := iQ.size; have : W2.heap.size ≤ W4.heap.size := iQ.size; omega
  have No := ak ((((fx.drewN nd).below iQ).below C8).grown jF (by intro h; cases h; exact hne rfl))
  have Lv : w.heap.size ≤ W4.heap.size := Nat.le_trans l9.size iQ.size
  have HBB := ak ((au (au (J l9 nd) iQ) C8).grown jF (Nat.le_trans Lv C8.size) (by intro k hk; cases hk; omega))
  have H9 := ak lT
  have G9 := ak (show w.heap.size ≤ g9 by omega)
  have G2 := ak dH
  have NE := ak hne
  have HR := ak hR
  have HZ := ak (And.intro aW bC)
  clear Qy hne Lv fx l9 iQ C8 jF lT pk dp dH hR hcut hpar hpc aW bC
  go_loopw [42] (fun i W => ∃ j : Nat, j ≤ b.size ∧ i = .int .i64 j ∧ Aside0 (bS W g9 [.int .u32 (v : Int), .int .i64 (kF b j)] 67) ∧ Aside0 (bS W g2 [.int .u32 0, .int .i64 0] 67) ∧ Aside0 (Below w.heap.size w W)) (fun i _ => b.size - (intOf i).toNat)
  case atStart => exact ⟨0, by omega, rfl, H9, No, HBB⟩
  case round =>
   clear H9 No HBB
   obtain ⟨j, hj, rfl, H9, H2, HBB⟩ := hrel
   obtain ⟨W, rfl⟩ : ∃ W : World, W = wr := ⟨_, rfl⟩
   by_cases lC : j < b.size
   ·have hjb : decide ((j : Int) < (b.size : Int)) = true := by simp; omega
    have hx := cb b (j : Int)
    have hy := rM b (j : Int)
    have hn : -48 ≤ kF b j ∧ kF b j ≤ 207 := by
     have h2 := HZ.out.2
     have vM := rM b ((0 : Nat) : Int)
     match j, lC with
     | 0, _ => simp [kF]
     | 1, _ => simp only [kF]; omega
     | j + 2, h => omega
    have HS := ak (show kF b (j + 1) = 10 * kF b j + bt b (j : Int) - 48 from rfl)
    have HC := ak (And.intro (H9.out.cell 1 _ rfl) (H9.out.frozen 1))
    obtain ⟨x, hxe⟩ : ∃ x, kF b j = x := ⟨_, rfl⟩
    obtain ⟨y, hye⟩ : ∃ y, bt b (j : Int) = y := ⟨_, rfl⟩
    rw [hxe] at hn HC H9 HS
    rw [hye] at hx hy HS
    have HW := ak (show wrap64 (wrap64 (wrap64 (10 * x) + wrap64 ((b[j]'(lC)).toNat : Int)) - 48) = 10 * x + y - 48 by
     rw [show ((b[j]'(lC)).toNat : Int) = y from hx lC, bM y (by omega) (by omega), bM (10 * x) (by omega) (by omega), bM (10 * x + y) (by omega) (by omega), bM (10 * x + y - 48) (by omega) (by omega)])
    go_wp2
    refine ee (n := 11) (S := fun w' => w'.cell? ⟨g9, 1, none⟩ = some (.int .i64 x) ∧ w'.frozen? ⟨g9, 1, none⟩ = false) (ds := [10]) #[false, false, false, false, false, false, false, false, false, false, false] (by kernel_rfl) rfl rfl HC.out (fun hHeld => ?_); refine cV jV.tab9 jV.bits9 (fun an cj => ?_)
    refine pu 0 an.out ?_
    refine tk 1 an.out cj.out hHeld ?_ (hv := by intro w' dg; obtain ⟨s0, s1⟩ := dg; go_simp; with_reducible rfl)
    refine pu 2 an.out ?_
    refine pu 3 an.out ?_
    refine pu 4 an.out ?_
    refine pu 5 an.out ?_
    refine pu 6 an.out ?_
    refine pu 7 an.out ?_
    refine pu 8 an.out ?_
    refine pu 9 an.out ?_
    refine vG (i := 10) (N := none) #[true, true, true, true, true, true, true, true, true, true, true] rfl rfl (oS an.out (by kernel_rfl)) (by decide) (fun K hK => ?_)
    obtain ⟨XR, XQ⟩ := hHeld
    refine tt (w1 := ?_) (by rfl) rfl ?_ ?_
    rotate_left
    ·go_simp
     rfl
    refine hK.out _ _ ?_
    clear hK K
    refine dn an.out ?_
    rw [HW.out]
    go_wp2
    refine ⟨⟨j + 1, by omega, by go_num, ⟨?_⟩, ⟨(H2.out.far (by simpa using NE.out) _)⟩, ⟨ab (HBB.out.setCell (by simpa using G9.out) _)⟩⟩, by simp [intOf]; omega⟩
    rw [HS.out]
    exact H9.out.set 1 _
   ·have hjb : decide ((j : Int) < (b.size : Int)) = false := by simp; omega
    obtain rfl : j = b.size := by omega
    have hlz := HZ.out
    by_cases hq : dL v (kF b b.size) = s
    ·have HE := ak (show kK s = ((v : Int), kF b b.size, 0) by rw [HR.out]; simp [hq, hlz.1, hlz.2])
     have hqb : ((dL v (kF b b.size)).toList == s.toList) = true := by rw [hq]; simp
     go_wp2_with (first
      | (refine bN rfl _ (.tmp 9) rfl g9 rfl _ _ _ H9.out Tryz.underlying67 rfl 2 (by kernel_rfl) rfl ?_)
      | (go_at_call 124; refine (dP.calls 8 _ _ _ _ HP.out).mono ?_; rintro e W7 ⟨rfl, lR⟩; have Ql := ak (H9.out.below lR); have Nq := ak (H2.out.below lR); have kO := ak (au HBB.out lR); clear lR)
      | (refine bN rfl _ (.tmp 9) rfl g9 rfl _ _ _ Ql.out Tryz.underlying67 rfl 2 (by kernel_rfl) rfl ?_)
      | (refine aM rfl 67 (.tmp 2) (.tmp 61) rfl g2 _ rfl rfl _ _ Nq.out 2 (by kernel_rfl) rfl rfl (by intro x hx; simp at hx; rcases hx with rfl | rfl <;> rfl) ?_; intro W8 ia b9))
     exact bodyPost_ret (bV rfl _ _ g2 67 _ (0, 0) _ rfl ia Tryz.underlying67 rfl (by kernel_rfl)) rfl ⟨by rw [HE.out]; rfl, kO.out.grown b9 kO.out.size (by intro k hk; cases hk; exact G2.out)⟩
    ·have HE := ak (show kK s = (0, 0, 3) by rw [HR.out]; simp [hq])
     have hqb : ((dL v (kF b b.size)).toList == s.toList) = false := by
      simp only [beq_eq_false_iff_ne, ne_eq]
      intro h
      exact hq (fy (pF h))
     go_wp2_with (first
      | (refine bN rfl _ (.tmp 9) rfl g9 rfl _ _ _ H9.out Tryz.underlying67 rfl 2 (by kernel_rfl) rfl ?_)
      | (go_at_call 124; refine (dP.calls 8 _ _ _ _ HP.out).mono ?_; rintro e W7 ⟨rfl, lR⟩; have Ql := ak (H9.out.below lR); have Nq := ak (H2.out.below lR); have kO := ak (au HBB.out lR); clear lR)
      | (refine aM rfl 67 (.tmp 2) (.tmp 60) rfl g2 [.int .u32 0, .int .i64 0] rfl rfl _ _ Nq.out 2 (by kernel_rfl) rfl rfl (by intro x hx; simp at hx; rcases hx with rfl | rfl <;> rfl) ?_; intro W8 ia b9))
     exact bodyPost_ret (bV rfl _ _ g2 67 _ (0, 0) _ rfl ia Tryz.underlying67 rfl (by kernel_rfl)) rfl ⟨by rw [HE.out]; rfl, kO.out.grown b9 kO.out.size (by intro k hk; cases hk; exact G2.out)⟩
 ·have HE := ak (show kK s = (0, 0, 3) by rw [hR, if_neg (by rintro ⟨h1, h2, h3, h4, _⟩; exact hgood ⟨h1, h2, h3, h4⟩)])
  clear hR
  cases ok with
  | false =>
   go_enter Tryz.func111, Tryz.ntmps111
   go_wp2_with (first
    | (refine a6 (some 2) rfl rfl 67 rfl [.int .u32 0, .int .i64 0] (fun _ => by kernel_rfl) ?_; intro g2 W2 dH fx l9)
    | (go_at_call 91; refine (hcut _).mono ?_; rintro e W3 ⟨rfl, ⟨nd, rfl⟩⟩)
    | (go_at_call 123; refine (hpar _).mono ?_; rintro e W4 ⟨rfl, iQ⟩)
    | (refine aM rfl 67 (.tmp 2) (.tmp 37) rfl g2 [.int .u32 0, .int .i64 0] rfl rfl _ _ ((fx.drewN nd).below iQ) 2 (by kernel_rfl) rfl rfl (by intro x hx; simp at hx; rcases hx with rfl | rfl <;> rfl) ?_; intro W8 ia b9))
   exact bodyPost_ret (bV rfl _ _ g2 67 _ (0, 0) _ rfl ia Tryz.underlying67 rfl (by kernel_rfl)) rfl ⟨by rw [HE.out]; rfl, (au (J l9 nd) iQ).grown b9 (Nat.le_trans l9.size iQ.size) (by intro k hk; cases hk; exact dH)⟩
  | true =>
   rcases hpc with ⟨v, hv, _, e⟩ | ⟨_, e⟩
   ·obtain ⟨rfl, rfl⟩ := Prod.mk.inj e
    by_cases h0 : b.size = 0
    ·have iv : (b.toList == ([] : List UInt8)) = true := by
      rw [Lib.toList_data]
      cases hd : b.data.toList with
      | nil => rfl
      | cons x l => have := cw b; rw [hd] at this; simp at this; omega
     go_enter Tryz.func111, Tryz.ntmps111
     go_wp2_with (first
      | (refine a6 (some 2) rfl rfl 67 rfl [.int .u32 0, .int .i64 0] (fun _ => by kernel_rfl) ?_; intro g2 W2 dH fx l9)
      | (go_at_call 91; refine (hcut _).mono ?_; rintro e W3 ⟨rfl, ⟨nd, rfl⟩⟩)
      | (go_at_call 123; refine (hpar _).mono ?_; rintro e W4 ⟨rfl, iQ⟩)
      | (refine aM rfl 67 (.tmp 2) (.tmp 37) rfl g2 [.int .u32 0, .int .i64 0] rfl rfl _ _ ((fx.drewN nd).below iQ) 2 (by kernel_rfl) rfl rfl (by intro x hx; simp at hx; rcases hx with rfl | rfl <;> rfl) ?_; intro W8 ia b9))
     exact bodyPost_ret (bV rfl _ _ g2 67 _ (0, 0) _ rfl ia Tryz.underlying67 rfl (by kernel_rfl)) rfl ⟨by rw [HE.out]; rfl, (au (J l9 nd) iQ).grown b9 (Nat.le_trans l9.size iQ.size) (by intro k hk; cases hk; exact dH)⟩
    ·have iv : (b.toList == ([] : List UInt8)) = false := by
      rw [Lib.toList_data]
      cases hd : b.data.toList with
      | nil => have := cw b; rw [hd] at this; simp at this; omega
      | cons x l => rfl
     have QI : decide ((b.size : Int) > 2) = true := by
      simp
      by_cases h3 : b.size ≤ 2
      ·exact absurd ⟨rfl, rfl, by omega, h3⟩ hgood
      ·omega
     go_enter Tryz.func111, Tryz.ntmps111
     go_wp2_with (first
      | (refine a6 (some 2) rfl rfl 67 rfl [.int .u32 0, .int .i64 0] (fun _ => by kernel_rfl) ?_; intro g2 W2 dH fx l9)
      | (go_at_call 91; refine (hcut _).mono ?_; rintro e W3 ⟨rfl, ⟨nd, rfl⟩⟩)
      | (go_at_call 123; refine (hpar _).mono ?_; rintro e W4 ⟨rfl, iQ⟩)
      | (refine aM rfl 67 (.tmp 2) (.tmp 37) rfl g2 [.int .u32 0, .int .i64 0] rfl rfl _ _ ((fx.drewN nd).below iQ) 2 (by kernel_rfl) rfl rfl (by intro x hx; simp at hx; rcases hx with rfl | rfl <;> rfl) ?_; intro W8 ia b9))
     exact bodyPost_ret (bV rfl _ _ g2 67 _ (0, 0) _ rfl ia Tryz.underlying67 rfl (by kernel_rfl)) rfl ⟨by rw [HE.out]; rfl, (au (J l9 nd) iQ).grown b9 (Nat.le_trans l9.size iQ.size) (by intro k hk; cases hk; exact dH)⟩
   ·obtain ⟨rfl, rfl⟩ := Prod.mk.inj e
    go_enter Tryz.func111, Tryz.ntmps111
    go_wp2_with (first
     | (refine a6 (some 2) rfl rfl 67 rfl [.int .u32 0, .int .i64 0] (fun _ => by kernel_rfl) ?_; intro g2 W2 dH fx l9)
     | (go_at_call 91; refine (hcut _).mono ?_; rintro e W3 ⟨rfl, ⟨nd, rfl⟩⟩)
     | (go_at_call 123; refine (hpar _).mono ?_; rintro e W4 ⟨rfl, iQ⟩)
     | (refine aM rfl 67 (.tmp 2) (.tmp 37) rfl g2 [.int .u32 0, .int .i64 0] rfl rfl _ _ ((fx.drewN nd).below iQ) 2 (by kernel_rfl) rfl rfl (by intro x hx; simp at hx; rcases hx with rfl | rfl <;> rfl) ?_; intro W8 ia b9))
    exact bodyPost_ret (bV rfl _ _ g2 67 _ (0, 0) _ rfl ia Tryz.underlying67 rfl (by kernel_rfl)) rfl ⟨by rw [HE.out]; rfl, (au (J l9 nd) iQ).grown b9 (Nat.le_trans l9.size iQ.size) (by intro k hk; cases hk; exact dH)⟩
end Go.Proofs.YtndddnglapkplaaGreatDoor.V
end

section
namespace Go.Proofs.YtndddnglapkplaaGreatDoor.V
def gu.f (a0 : ByteArray) : Option (Int × Int × Int) := if a0.size < 4294967281 then some (kK a0) else none
theorem gu.calls (a0 : ByteArray) (r1 r2 r3 : Int) (w : World) (h : gu.f a0 = some (r1, r2, r3)) :
  Calls Tryz.prog 111 #[.string a0] w fun e w' => e = .returned (.tuple #[.agg #[.int .u32 r1, .int .i64 r2], .int .i64 r3]) ∧ Below w.heap.size w w' := by
 unfold gu.f at h
 split at h
 ·rename_i hr
  have e := Option.some.inj h
  refine (Dd a0 hr w).mono fun e' w' ⟨h1, h2⟩ => ⟨?_, h2⟩
  rw [h1, e]
 ·cases h
end Go.Proofs.YtndddnglapkplaaGreatDoor.V
end

