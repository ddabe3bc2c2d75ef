/- The law BlockRight for every input: texts of ours, put together (part 10 of 12). No further condition. -/
import Derived.Test.YtemhalnhbgkbcaaCBlockRightx2
import Derived.Test.YtemhalnhbgkbcaaCBlockRightx7
import Derived.Test.YtemhalnhbgkbcaaCBlockRightx8
import Derived.Test.YtemhalnhbgkbcaaCBlockRightx4
import Derived.Test.YtemhalnhbgkbcaaCBlockRightw1
import Derived.Outline
import Derived.Test.YtemhalnhbgkbcaaCBlockRightx6
import Derived.Test.YtemhalnhbgkbcaaCBlockRightx5
import Derived.ArgAppend
import Derived.Lib.SlBytesConst
-- VFVirgateref15Right
section
-- PRINTED by print.py (a twelfth state) out of the translation. Not trusted: Lean checks it.
namespace Go.Proofs.Ytemhalnhbgkbcaa.V
open Go.RowKit Go.Proofs.YtemhalnhbgkbcaaW.PrintWords Go.Proofs.YtemhalnhbgkbcaaW.PrintLast Go.Proofs.YtemhalnhbgkbcaaW.PrintMore
attribute [local go_sem] max2_int min2_int max_two min_two max_three min_three max_four min_four   -- for this text's walks alone
set_option linter.unusedVariables false
set_option linter.unusedSimpArgs false

attribute [local go_sem high] eqA76
/-! ### virgateref15_Right: function 35 -/
mutual
def virgateref15_Right.j0 : Nat → Bool → Int → ByteArray → List Int → List Int → List (S76) → Option (Bool)
  | 0, _, _, _, _, _, _ => none
  | k + 1, x33, x35102000, x35102001, x35102002, x35102003, x35102004 => if x33 = true then (some false) else (virgateref15_Right.l0 k x35102004 (x35102004.length : Int) 0 x35102000 x35102001 x35102002 x35102003 x35102004)
def virgateref15_Right.l0 : Nat → List (S76) → Int → Int → Int → ByteArray → List Int → List Int → List (S76) → Option (Bool)
  | 0, _, _, _, _, _, _, _, _ => none
  | k + 1, x35, x36, x37, x35102000, x35102001, x35102002, x35102003, x35102004 => if x37 < x36 then (if 0 ≤ x37 then (if x37 < (x35.length : Int) then ((virgateref15_May.f k ((rd_T76 x35 x37).f0) ((rd_T76 x35 x37).f1)).bind fun t35105 => (if t35105 = true then ((virgateref15_count.f k x35102002 (wrap64 (x37 + 1))).bind fun t35106 => (virgateref15_Right.j2 k x37 x35 x36 x37 (t35106 == 0) x35102000 x35102001 x35102002 x35102003 x35102004 ((rd_T76 x35 x37).f0) ((rd_T76 x35 x37).f1))) else (virgateref15_Right.j2 k x37 x35 x36 x37 true x35102000 x35102001 x35102002 x35102003 x35102004 ((rd_T76 x35 x37).f0) ((rd_T76 x35 x37).f1)))) else (none)) else (none)) else (virgateref15_Right.l2 k x35102002 (x35102002.length : Int) 0 x35102000 x35102001 x35102002 x35102003 x35102004)
def virgateref15_Right.j2 : Nat → Int → List (S76) → Int → Int → Bool → Int → ByteArray → List Int → List Int → List (S76) → ByteArray → ByteArray → Option (Bool)
  | 0, _, _, _, _, _, _, _, _, _, _, _, _ => none
  | k + 1, x3, x35, x36, x37, x52, x35102000, x35102001, x35102002, x35102003, x35102004, x35105000, x35105001 => if x52 = true then (some false) else (if 0 ≤ x3 then (if x3 ≤ (x35102004.length : Int) then ((some (x35102004.take (x3 : Int).toNat : List (S76))).bind fun y35107 => (virgateref15_Right.l1 k x35 x36 x37 y35107 (y35107.length : Int) 0 x35102000 x35102001 x35102002 x35102003 x35102004 x35105000 x35105001)) else (none)) else (none))
def virgateref15_Right.l1 : Nat → List (S76) → Int → Int → List (S76) → Int → Int → Int → ByteArray → List Int → List Int → List (S76) → ByteArray → ByteArray → Option (Bool)
  | 0, _, _, _, _, _, _, _, _, _, _, _, _, _ => none
  | k + 1, x35, x36, x37, x56, x57, x58, x35102000, x35102001, x35102002, x35102003, x35102004, x35105000, x35105001 => if x58 < x57 then (if 0 ≤ x58 then (if x58 < (x56.length : Int) then (if ((((rd_T76 x56 x58).f0).toList) == x35105000.toList && ((((rd_T76 x56 x58).f1).toList) == x35105001.toList)) = true then (some false) else (virgateref15_Right.l1 k x35 x36 x37 x56 x57 (wrap64 (x58 + 1)) x35102000 x35102001 x35102002 x35102003 x35102004 x35105000 x35105001)) else (none)) else (none)) else (virgateref15_Right.l0 k x35 x36 (wrap64 (x37 + 1)) x35102000 x35102001 x35102002 x35102003 x35102004)
def virgateref15_Right.l2 : Nat → List Int → Int → Int → Int → ByteArray → List Int → List Int → List (S76) → Option (Bool)
  | 0, _, _, _, _, _, _, _, _ => none
  | k + 1, x68, x69, x70, x35102000, x35102001, x35102002, x35102003, x35102004 => if x70 < x69 then (if 0 ≤ x70 then (if x70 < (x68.length : Int) then (if (rd x68 x70) < 0 then (virgateref15_Right.j5 k x70 (rd x68 x70) x68 x69 x70 true x35102000 x35102001 x35102002 x35102003 x35102004) else (virgateref15_Right.j5 k x70 (rd x68 x70) x68 x69 x70 (decide ((rd x68 x70) > (x35102004.length : Int))) x35102000 x35102001 x35102002 x35102003 x35102004)) else (none)) else (none)) else (virgateref15_Right.l3 k x35102003 (x35102003.length : Int) 0)
def virgateref15_Right.j5 : Nat → Int → Int → List Int → Int → Int → Bool → Int → ByteArray → List Int → List Int → List (S76) → Option (Bool)
  | 0, _, _, _, _, _, _, _, _, _, _, _ => none
  | k + 1, x7, x8, x68, x69, x70, x83, x35102000, x35102001, x35102002, x35102003, x35102004 => if x83 = true then (some false) else (if x8 = 0 then ((virgateref15_count.f k x35102003 x7).bind fun t35114 => (if t35114 = 1 then (virgateref15_Right.l2 k x68 x69 (wrap64 (x70 + 1)) x35102000 x35102001 x35102002 x35102003 x35102004) else (some false))) else ((virgateref15_count.f k x35102003 x7).bind fun t35115 => (if t35115 = 0 then (virgateref15_Right.l2 k x68 x69 (wrap64 (x70 + 1)) x35102000 x35102001 x35102002 x35102003 x35102004) else (some false))))
def virgateref15_Right.l3 : Nat → List Int → Int → Int → Option (Bool)
  | 0, _, _, _ => none
  | k + 1, x94, x95, x96 => if x96 < x95 then (if 0 ≤ x96 then (if x96 < (x94.length : Int) then (if (rd x94 x96) < 0 then (some false) else (if (rd x94 x96) > 63 then (some false) else (virgateref15_Right.l3 k x94 x95 (wrap64 (x96 + 1))))) else (none)) else (none)) else (some true)
end
def virgateref15_Right.f (k : Nat) (a0_0 : Int) (a0_1 : ByteArray) (l0_2 : List Int) (l0_3 : List Int) (l0_4 : List (S76)) : Option (Bool) := if (Int.tmod a0_0 64) = 0 then ((virgateref15_Owner.f k a0_1).bind fun t35102 => (if t35102 = true then (if (l0_4.length : Int) > 64 then (virgateref15_Right.j0 k true a0_0 a0_1 l0_2 l0_3 l0_4) else (virgateref15_Right.j0 k ((l0_2.length : Int) != 64) a0_0 a0_1 l0_2 l0_3 l0_4)) else (virgateref15_Right.j0 k true a0_0 a0_1 l0_2 l0_3 l0_4))) else (virgateref15_Right.j0 k true a0_0 a0_1 l0_2 l0_3 l0_4)
theorem virgateref15_Right.mono_l : ∀ k, (∀ y0 y1 y2 y3 y4 y5, LeO (virgateref15_Right.j0 k y0 y1 y2 y3 y4 y5) (virgateref15_Right.j0 (k + 1) y0 y1 y2 y3 y4 y5)) ∧ (∀ y0 y1 y2 y3 y4 y5 y6 y7, LeO (virgateref15_Right.l0 k y0 y1 y2 y3 y4 y5 y6 y7) (virgateref15_Right.l0 (k + 1) y0 y1 y2 y3 y4 y5 y6 y7)) ∧ (∀ y0 y1 y2 y3 y4 y5 y6 y7 y8 y9 y10 y11, LeO (virgateref15_Right.j2 k y0 y1 y2 y3 y4 y5 y6 y7 y8 y9 y10 y11) (virgateref15_Right.j2 (k + 1) y0 y1 y2 y3 y4 y5 y6 y7 y8 y9 y10 y11)) ∧ (∀ y0 y1 y2 y3 y4 y5 y6 y7 y8 y9 y10 y11 y12, LeO (virgateref15_Right.l1 k y0 y1 y2 y3 y4 y5 y6 y7 y8 y9 y10 y11 y12) (virgateref15_Right.l1 (k + 1) y0 y1 y2 y3 y4 y5 y6 y7 y8 y9 y10 y11 y12)) ∧ (∀ y0 y1 y2 y3 y4 y5 y6 y7, LeO (virgateref15_Right.l2 k y0 y1 y2 y3 y4 y5 y6 y7) (virgateref15_Right.l2 (k + 1) y0 y1 y2 y3 y4 y5 y6 y7)) ∧ (∀ y0 y1 y2 y3 y4 y5 y6 y7 y8 y9 y10, LeO (virgateref15_Right.j5 k y0 y1 y2 y3 y4 y5 y6 y7 y8 y9 y10) (virgateref15_Right.j5 (k + 1) y0 y1 y2 y3 y4 y5 y6 y7 y8 y9 y10)) ∧ (∀ y0 y1 y2, LeO (virgateref15_Right.l3 k y0 y1 y2) (virgateref15_Right.l3 (k + 1) y0 y1 y2))
  | 0 => ⟨fun _ _ _ _ _ _ r h => by simp [virgateref15_Right.j0] at h, fun _ _ _ _ _ _ _ _ r h => by simp [virgateref15_Right.l0] at h, fun _ _ _ _ _ _ _ _ _ _ _ _ r h => by simp [virgateref15_Right.j2] at h, fun _ _ _ _ _ _ _ _ _ _ _ _ _ r h => by simp [virgateref15_Right.l1] at h, fun _ _ _ _ _ _ _ _ r h => by simp [virgateref15_Right.l2] at h, fun _ _ _ _ _ _ _ _ _ _ _ r h => by simp [virgateref15_Right.j5] at h, fun _ _ _ r h => by simp [virgateref15_Right.l3] at h⟩
  | k + 1 => by
    obtain ⟨ih0, ih1, ih2, ih3, ih4, ih5, ih6⟩ := virgateref15_Right.mono_l k
    refine ⟨?_, ?_, ?_, ?_, ?_, ?_, ?_⟩
    · intro y0 y1 y2 y3 y4 y5
      unfold virgateref15_Right.j0
      repeat' first
      | (with_reducible exact ih0 _ _ _ _ _ _)
      | (with_reducible exact ih1 _ _ _ _ _ _ _ _)
      | (with_reducible exact ih2 _ _ _ _ _ _ _ _ _ _ _ _)
      | (with_reducible exact ih3 _ _ _ _ _ _ _ _ _ _ _ _ _)
      | (with_reducible exact ih4 _ _ _ _ _ _ _ _)
      | (with_reducible exact ih5 _ _ _ _ _ _ _ _ _ _ _)
      | (with_reducible exact ih6 _ _ _)
      | (with_reducible exact virgateref15_May.mono _ _ _)
      | (with_reducible exact virgateref15_Owner.mono _ _)
      | (with_reducible exact virgateref15_count.mono _ _ _)
      | (with_reducible exact LeO.refl _)
      | (with_reducible exact LeO.none _)
      | (with_reducible refine LeO.ite ?_ ?_)
      | (with_reducible refine LeO.bind ?_ (fun _ => ?_))
      | exact ih0 _ _ _ _ _ _
      | exact ih1 _ _ _ _ _ _ _ _
      | exact ih2 _ _ _ _ _ _ _ _ _ _ _ _
      | exact ih3 _ _ _ _ _ _ _ _ _ _ _ _ _
      | exact ih4 _ _ _ _ _ _ _ _
      | exact ih5 _ _ _ _ _ _ _ _ _ _ _
      | exact ih6 _ _ _
      | exact virgateref15_May.mono _ _ _
      | exact virgateref15_Owner.mono _ _
      | exact virgateref15_count.mono _ _ _
      | exact LeO.none _
      | refine LeO.ite ?_ ?_
      | refine LeO.bind ?_ (fun _ => ?_)
    · intro y0 y1 y2 y3 y4 y5 y6 y7
      unfold virgateref15_Right.l0
      repeat' first
      | (with_reducible exact ih0 _ _ _ _ _ _)
      | (with_reducible exact ih1 _ _ _ _ _ _ _ _)
      | (with_reducible exact ih2 _ _ _ _ _ _ _ _ _ _ _ _)
      | (with_reducible exact ih3 _ _ _ _ _ _ _ _ _ _ _ _ _)
      | (with_reducible exact ih4 _ _ _ _ _ _ _ _)
      | (with_reducible exact ih5 _ _ _ _ _ _ _ _ _ _ _)
      | (with_reducible exact ih6 _ _ _)
      | (with_reducible exact virgateref15_May.mono _ _ _)
      | (with_reducible exact virgateref15_Owner.mono _ _)
      | (with_reducible exact virgateref15_count.mono _ _ _)
      | (with_reducible exact LeO.refl _)
      | (with_reducible exact LeO.none _)
      | (with_reducible refine LeO.ite ?_ ?_)
      | (with_reducible refine LeO.bind ?_ (fun _ => ?_))
      | exact ih0 _ _ _ _ _ _
      | exact ih1 _ _ _ _ _ _ _ _
      | exact ih2 _ _ _ _ _ _ _ _ _ _ _ _
      | exact ih3 _ _ _ _ _ _ _ _ _ _ _ _ _
      | exact ih4 _ _ _ _ _ _ _ _
      | exact ih5 _ _ _ _ _ _ _ _ _ _ _
      | exact ih6 _ _ _
      | exact virgateref15_May.mono _ _ _
      | exact virgateref15_Owner.mono _ _
      | exact virgateref15_count.mono _ _ _
      | exact LeO.none _
      | refine LeO.ite ?_ ?_
      | refine LeO.bind ?_ (fun _ => ?_)
    · intro y0 y1 y2 y3 y4 y5 y6 y7 y8 y9 y10 y11
      unfold virgateref15_Right.j2
      repeat' first
      | (with_reducible exact ih0 _ _ _ _ _ _)
      | (with_reducible exact ih1 _ _ _ _ _ _ _ _)
      | (with_reducible exact ih2 _ _ _ _ _ _ _ _ _ _ _ _)
      | (with_reducible exact ih3 _ _ _ _ _ _ _ _ _ _ _ _ _)
      | (with_reducible exact ih4 _ _ _ _ _ _ _ _)
      | (with_reducible exact ih5 _ _ _ _ _ _ _ _ _ _ _)
      | (with_reducible exact ih6 _ _ _)
      | (with_reducible exact virgateref15_May.mono _ _ _)
      | (with_reducible exact virgateref15_Owner.mono _ _)
      | (with_reducible exact virgateref15_count.mono _ _ _)
      | (with_reducible exact LeO.refl _)
      | (with_reducible exact LeO.none _)
      | (with_reducible refine LeO.ite ?_ ?_)
      | (with_reducible refine LeO.bind ?_ (fun _ => ?_))
      | exact ih0 _ _ _ _ _ _
      | exact ih1 _ _ _ _ _ _ _ _
      | exact ih2 _ _ _ _ _ _ _ _ _ _ _ _
      | exact ih3 _ _ _ _ _ _ _ _ _ _ _ _ _
      | exact ih4 _ _ _ _ _ _ _ _
      | exact ih5 _ _ _ _ _ _ _ _ _ _ _
      | exact ih6 _ _ _
      | exact virgateref15_May.mono _ _ _
      | exact virgateref15_Owner.mono _ _
      | exact virgateref15_count.mono _ _ _
      | exact LeO.none _
      | refine LeO.ite ?_ ?_
      | refine LeO.bind ?_ (fun _ => ?_)
    · intro y0 y1 y2 y3 y4 y5 y6 y7 y8 y9 y10 y11 y12
      unfold virgateref15_Right.l1
      repeat' first
      | (with_reducible exact ih0 _ _ _ _ _ _)
      | (with_reducible exact ih1 _ _ _ _ _ _ _ _)
      | (with_reducible exact ih2 _ _ _ _ _ _ _ _ _ _ _ _)
      | (with_reducible exact ih3 _ _ _ _ _ _ _ _ _ _ _ _ _)
      | (with_reducible exact ih4 _ _ _ _ _ _ _ _)
      | (with_reducible exact ih5 _ _ _ _ _ _ _ _ _ _ _)
      | (with_reducible exact ih6 _ _ _)
      | (with_reducible exact virgateref15_May.mono _ _ _)
      | (with_reducible exact virgateref15_Owner.mono _ _)
      | (with_reducible exact virgateref15_count.mono _ _ _)
      | (with_reducible exact LeO.refl _)
      | (with_reducible exact LeO.none _)
      | (with_reducible refine LeO.ite ?_ ?_)
      | (with_reducible refine LeO.bind ?_ (fun _ => ?_))
      | exact ih0 _ _ _ _ _ _
      | exact ih1 _ _ _ _ _ _ _ _
      | exact ih2 _ _ _ _ _ _ _ _ _ _ _ _
      | exact ih3 _ _ _ _ _ _ _ _ _ _ _ _ _
      | exact ih4 _ _ _ _ _ _ _ _
      | exact ih5 _ _ _ _ _ _ _ _ _ _ _
      | exact ih6 _ _ _
      | exact virgateref15_May.mono _ _ _
      | exact virgateref15_Owner.mono _ _
      | exact virgateref15_count.mono _ _ _
      | exact LeO.none _
      | refine LeO.ite ?_ ?_
      | refine LeO.bind ?_ (fun _ => ?_)
    · intro y0 y1 y2 y3 y4 y5 y6 y7
      unfold virgateref15_Right.l2
      repeat' first
      | (with_reducible exact ih0 _ _ _ _ _ _)
      | (with_reducible exact ih1 _ _ _ _ _ _ _ _)
      | (with_reducible exact ih2 _ _ _ _ _ _ _ _ _ _ _ _)
      | (with_reducible exact ih3 _ _ _ _ _ _ _ _ _ _ _ _ _)
      | (with_reducible exact ih4 _ _ _ _ _ _ _ _)
      | (with_reducible exact ih5 _ _ _ _ _ _ _ _ _ _ _)
      | (with_reducible exact ih6 _ _ _)
      | (with_reducible exact virgateref15_May.mono _ _ _)
      | (with_reducible exact virgateref15_Owner.mono _ _)
      | (with_reducible exact virgateref15_count.mono _ _ _)
      | (with_reducible exact LeO.refl _)
      | (with_reducible exact LeO.none _)
      | (with_reducible refine LeO.ite ?_ ?_)
      | (with_reducible refine LeO.bind ?_ (fun _ => ?_))
      | exact ih0 _ _ _ _ _ _
      | exact ih1 _ _ _ _ _ _ _ _
      | exact ih2 _ _ _ _ _ _ _ _ _ _ _ _
      | exact ih3 _ _ _ _ _ _ _ _ _ _ _ _ _
      | exact ih4 _ _ _ _ _ _ _ _
      | exact ih5 _ _ _ _ _ _ _ _ _ _ _
      | exact ih6 _ _ _
      | exact virgateref15_May.mono _ _ _
      | exact virgateref15_Owner.mono _ _
      | exact virgateref15_count.mono _ _ _
      | exact LeO.none _
      | refine LeO.ite ?_ ?_
      | refine LeO.bind ?_ (fun _ => ?_)
    · intro y0 y1 y2 y3 y4 y5 y6 y7 y8 y9 y10
      unfold virgateref15_Right.j5
      repeat' first
      | (with_reducible exact ih0 _ _ _ _ _ _)
      | (with_reducible exact ih1 _ _ _ _ _ _ _ _)
      | (with_reducible exact ih2 _ _ _ _ _ _ _ _ _ _ _ _)
      | (with_reducible exact ih3 _ _ _ _ _ _ _ _ _ _ _ _ _)
      | (with_reducible exact ih4 _ _ _ _ _ _ _ _)
      | (with_reducible exact ih5 _ _ _ _ _ _ _ _ _ _ _)
      | (with_reducible exact ih6 _ _ _)
      | (with_reducible exact virgateref15_May.mono _ _ _)
      | (with_reducible exact virgateref15_Owner.mono _ _)
      | (with_reducible exact virgateref15_count.mono _ _ _)
      | (with_reducible exact LeO.refl _)
      | (with_reducible exact LeO.none _)
      | (with_reducible refine LeO.ite ?_ ?_)
      | (with_reducible refine LeO.bind ?_ (fun _ => ?_))
      | exact ih0 _ _ _ _ _ _
      | exact ih1 _ _ _ _ _ _ _ _
      | exact ih2 _ _ _ _ _ _ _ _ _ _ _ _
      | exact ih3 _ _ _ _ _ _ _ _ _ _ _ _ _
      | exact ih4 _ _ _ _ _ _ _ _
      | exact ih5 _ _ _ _ _ _ _ _ _ _ _
      | exact ih6 _ _ _
      | exact virgateref15_May.mono _ _ _
      | exact virgateref15_Owner.mono _ _
      | exact virgateref15_count.mono _ _ _
      | exact LeO.none _
      | refine LeO.ite ?_ ?_
      | refine LeO.bind ?_ (fun _ => ?_)
    · intro y0 y1 y2
      unfold virgateref15_Right.l3
      repeat' first
      | (with_reducible exact ih0 _ _ _ _ _ _)
      | (with_reducible exact ih1 _ _ _ _ _ _ _ _)
      | (with_reducible exact ih2 _ _ _ _ _ _ _ _ _ _ _ _)
      | (with_reducible exact ih3 _ _ _ _ _ _ _ _ _ _ _ _ _)
      | (with_reducible exact ih4 _ _ _ _ _ _ _ _)
      | (with_reducible exact ih5 _ _ _ _ _ _ _ _ _ _ _)
      | (with_reducible exact ih6 _ _ _)
      | (with_reducible exact virgateref15_May.mono _ _ _)
      | (with_reducible exact virgateref15_Owner.mono _ _)
      | (with_reducible exact virgateref15_count.mono _ _ _)
      | (with_reducible exact LeO.refl _)
      | (with_reducible exact LeO.none _)
      | (with_reducible refine LeO.ite ?_ ?_)
      | (with_reducible refine LeO.bind ?_ (fun _ => ?_))
      | exact ih0 _ _ _ _ _ _
      | exact ih1 _ _ _ _ _ _ _ _
      | exact ih2 _ _ _ _ _ _ _ _ _ _ _ _
      | exact ih3 _ _ _ _ _ _ _ _ _ _ _ _ _
      | exact ih4 _ _ _ _ _ _ _ _
      | exact ih5 _ _ _ _ _ _ _ _ _ _ _
      | exact ih6 _ _ _
      | exact virgateref15_May.mono _ _ _
      | exact virgateref15_Owner.mono _ _
      | exact virgateref15_count.mono _ _ _
      | exact LeO.none _
      | refine LeO.ite ?_ ?_
      | refine LeO.bind ?_ (fun _ => ?_)
theorem virgateref15_Right.mono : ∀ a0 a1 a2 a3 a4 k, LeO (virgateref15_Right.f k a0 a1 a2 a3 a4) (virgateref15_Right.f (k + 1) a0 a1 a2 a3 a4) := by
  intro a0 a1 a2 a3 a4 k
  obtain ⟨ih0, ih1, ih2, ih3, ih4, ih5, ih6⟩ := virgateref15_Right.mono_l k
  unfold virgateref15_Right.f
  repeat' first
      | (with_reducible exact ih0 _ _ _ _ _ _)
      | (with_reducible exact ih1 _ _ _ _ _ _ _ _)
      | (with_reducible exact ih2 _ _ _ _ _ _ _ _ _ _ _ _)
      | (with_reducible exact ih3 _ _ _ _ _ _ _ _ _ _ _ _ _)
      | (with_reducible exact ih4 _ _ _ _ _ _ _ _)
      | (with_reducible exact ih5 _ _ _ _ _ _ _ _ _ _ _)
      | (with_reducible exact ih6 _ _ _)
      | (with_reducible exact virgateref15_May.mono _ _ _)
      | (with_reducible exact virgateref15_Owner.mono _ _)
      | (with_reducible exact virgateref15_count.mono _ _ _)
      | (with_reducible exact LeO.refl _)
      | (with_reducible exact LeO.none _)
      | (with_reducible refine LeO.ite ?_ ?_)
      | (with_reducible refine LeO.bind ?_ (fun _ => ?_))
      | exact ih0 _ _ _ _ _ _
      | exact ih1 _ _ _ _ _ _ _ _
      | exact ih2 _ _ _ _ _ _ _ _ _ _ _ _
      | exact ih3 _ _ _ _ _ _ _ _ _ _ _ _ _
      | exact ih4 _ _ _ _ _ _ _ _
      | exact ih5 _ _ _ _ _ _ _ _ _ _ _
      | exact ih6 _ _ _
      | exact virgateref15_May.mono _ _ _
      | exact virgateref15_Owner.mono _ _
      | exact virgateref15_count.mono _ _ _
      | exact LeO.none _
      | refine LeO.ite ?_ ?_
      | refine LeO.bind ?_ (fun _ => ?_)
set_option maxHeartbeats 8000000 in
set_option maxRecDepth 100000 in
theorem virgateref15_Right.calls (k : Nat) (a0_0 : Int) (a0_1 : ByteArray) (A0_2 : Option Addr) (c0_2 : Nat) (l0_2 : List Int) (A0_3 : Option Addr) (c0_3 : Nat) (l0_3 : List Int) (A0_4 : Option Addr) (c0_4 : Nat) (l0_4 : List (S76)) (r : Bool) (w : World) (hr0_2 : Kd.C (Kd.int .i64) w A0_2 l0_2.length l0_2) (hc0_2 : l0_2.length ≤ c0_2) (hr0_3 : Kd.C (Kd.int .i64) w A0_3 l0_3.length l0_3) (hc0_3 : l0_3.length ≤ c0_3) (hr0_4 : Kd.C k76 w A0_4 l0_4.length l0_4) (hc0_4 : l0_4.length ≤ c0_4) (h : virgateref15_Right.f k a0_0 a0_1 l0_2 l0_3 l0_4 = some r) :
    Calls Try.prog 35 #[.agg #[.int .u32 a0_0, .string a0_1, .slice A0_2 l0_2.length c0_2, .slice A0_3 l0_3.length c0_3, .slice A0_4 l0_4.length c0_4]] w fun e w' => e = .returned (.bool r) ∧ Below w.heap.size w w' := by
  have hu62 := Try.underlying62
  have hu76 := Try.underlying76
  have HR0_2 := Aside0.mk hr0_2
  have HC0_2 := Aside0.mk hc0_2
  clear hr0_2 hc0_2
  have HR0_3 := Aside0.mk hr0_3
  have HC0_3 := Aside0.mk hc0_3
  clear hr0_3 hc0_3
  have HR0_4 := Aside0.mk hr0_4
  have HC0_4 := Aside0.mk hc0_4
  clear hr0_4 hc0_4
  have HB := Aside0.mk (Below.refl w.heap.size w)
  have H : (if (Int.tmod a0_0 64) = 0 then ((virgateref15_Owner.f k a0_1).bind fun t35102 => (if t35102 = true then (if (l0_4.length : Int) > 64 then (virgateref15_Right.j0 k true a0_0 a0_1 l0_2 l0_3 l0_4) else (virgateref15_Right.j0 k ((l0_2.length : Int) != 64) a0_0 a0_1 l0_2 l0_3 l0_4)) else (virgateref15_Right.j0 k true a0_0 a0_1 l0_2 l0_3 l0_4))) else (virgateref15_Right.j0 k true a0_0 a0_1 l0_2 l0_3 l0_4)) = some r := h
  clear h
  have HC2 := Aside0.mk H
  clear H
  go_enter Try.func35, Try.ntmps35
  go_upto_region 1 with (first | ((with_reducible refine gate_dst (N := 1) rfl ?_); (try (refine gate_guard (by rfl) ?_; dsimp only)); refine box_event ?hg (N := 1) ?hd (cs := #[.int .u32 a0_0, .string a0_1, .slice A0_2 l0_2.length c0_2, .slice A0_3 l0_3.length c0_3, .slice A0_4 l0_4.length c0_4]) (t := 62) ?hr ?_; (case hd => rfl); (case hg => rfl); (case hr => first | (go_simp; done) | (go_simp; rfl)); intro gb35101 hg w3 hbox hb; have n0_ := Aside0.mk (below_step (by repeat (first | (with_reducible first | exact HB.out | apply below_alloc | apply pw_below_drewN | apply below_drew1) | exact HB.out)) hb); have n1_ := Aside0.mk (hbox); have n2_ := Aside0.mk ((by rw [hg]; exact (below_size (by repeat (first | (with_reducible first | exact HB.out | apply below_alloc | apply pw_below_drewN | apply below_drew1) | exact HB.out))) : w.heap.size ≤ gb35101)); have n3_ := Aside0.mk ((by rw [hg]; exact (below_size (by repeat (first | (with_reducible first | exact HB.out | apply below_alloc | apply pw_below_drewN | apply below_drew1) | exact HB.out))) : w.heap.size ≤ gb35101)); clear HB; have HB := n0_; have BK35101 := n1_; have GW35101 := n2_; have GE35101 := n3_; clear n0_ n1_ n2_ n3_; clear hb hbox hg))
  (try simp only [Act.put, List.setIfInBounds_toArray, List.set_cons_zero, List.set_cons_succ])
  go_cut [33] (fun v33 wc => ∃ (kq : Nat) (x33_1 : Bool), v33 = .bool x33_1 ∧ Aside0 (virgateref15_Right.j0 kq x33_1 a0_0 a0_1 l0_2 l0_3 l0_4 = some r) ∧ Aside0 (kq ≤ k) ∧ Aside0 (wc.heap[gb35101]? = some (.cells #[.int .u32 a0_0, .string a0_1, (.slice A0_2 l0_2.length c0_2), (.slice A0_3 l0_3.length c0_3), (.slice A0_4 l0_4.length c0_4)] 62 (0, 0))) ∧ Aside0 (Below w.heap.size w wc))
  case first =>
    have H := HC2.out
    clear HC2
    by_cases c4 : (Int.tmod a0_0 64) = 0
    · rw [if_pos c4] at H
      have c4b0 : ((Int.tmod a0_0 64) == 0) = true := beq_iff_eq.mpr c4
      have c4b1 : ((Int.tmod a0_0 64) != 0) = false := bne_eq_false_iff_eq.mpr c4
      clear c4
      (first | rw [c4b0] | (simp only [i64_w, i32_w]; rw [c4b0]) | skip)
      replace H := Option.bind_eq_some_iff.mp H
      obtain ⟨t35102, A50, H⟩ := H
      replace H : (if t35102 = true then (if (l0_4.length : Int) > 64 then (virgateref15_Right.j0 k true a0_0 a0_1 l0_2 l0_3 l0_4) else (virgateref15_Right.j0 k ((l0_2.length : Int) != 64) a0_0 a0_1 l0_2 l0_3 l0_4)) else (virgateref15_Right.j0 k true a0_0 a0_1 l0_2 l0_3 l0_4)) = some r := H
      have A5 := Aside0.mk A50
      clear A50
      by_cases c6 : t35102 = true
      · subst c6
        have H1 : (if (l0_4.length : Int) > 64 then (virgateref15_Right.j0 k true a0_0 a0_1 l0_2 l0_3 l0_4) else (virgateref15_Right.j0 k ((l0_2.length : Int) != 64) a0_0 a0_1 l0_2 l0_3 l0_4)) = some r := by rw [if_pos rfl] at H; exact H
        clear H
        have H := H1
        clear H1
        by_cases c7 : (l0_4.length : Int) > 64
        · rw [if_pos c7] at H
          have c7b0 : decide (64 < (l0_4.length : Int)) = true := decide_eq_true c7
          have c7b1 : decide (64 < l0_4.length) = true := decide_eq_true (by omega)
          clear c7
          have H' := Aside0.mk H
          clear H
          have hcz8_0 : w3.cell? ⟨gb35101, 0, none⟩ = some (.int .u32 a0_0) := (blk_cell BK35101.out 0).trans rfl
          have hcz8_1 : w3.cell? ⟨gb35101, 1, none⟩ = some (.string a0_1) := (blk_cell BK35101.out 1).trans rfl
          have hcz8_2 : w3.cell? ⟨gb35101, 2, none⟩ = some (.slice A0_2 l0_2.length c0_2) := (blk_cell BK35101.out 2).trans rfl
          have hcz8_3 : w3.cell? ⟨gb35101, 3, none⟩ = some (.slice A0_3 l0_3.length c0_3) := (blk_cell BK35101.out 3).trans rfl
          have hcz8_4 : w3.cell? ⟨gb35101, 4, none⟩ = some (.slice A0_4 l0_4.length c0_4) := (blk_cell BK35101.out 4).trans rfl
          have hfz8_0 := blk_frozen BK35101.out 0
          have hfz8_1 := blk_frozen BK35101.out 1
          have hfz8_2 := blk_frozen BK35101.out 2
          have hfz8_3 := blk_frozen BK35101.out 3
          have hfz8_4 := blk_frozen BK35101.out 4
          go_wp2_with (first | (go_at_call 42; (with_reducible refine (virgateref15_Owner.calls k a0_1 true _ A5.out).mono ?_); rintro e w' ⟨rfl, ⟨nd, rfl⟩⟩))
          go_meet
          case rel => exact ⟨_, (true), (by first | rfl | (simp; done) | (simp [*]; done)), H', ⟨by first | omega | exact Nat.le_refl _⟩, ⟨by (with_reducible repeat (first | refine blk_drewN ?_ _ | refine blk_drew ?_ | refine blk_alloc ?_ _)); exact BK35101.out⟩, ⟨by repeat (first | (with_reducible first | exact HB.out | apply below_alloc | apply pw_below_drewN | apply below_drew1 | refine below_set ?_ GE35101.out) | exact HB.out)⟩⟩
        · rw [if_neg c7] at H
          have c7b0 : decide (64 < (l0_4.length : Int)) = false := decide_eq_false c7
          have c7b1 : decide (64 < l0_4.length) = false := decide_eq_false (by omega)
          clear c7
          have H' := Aside0.mk H
          clear H
          have hcz9_0 : w3.cell? ⟨gb35101, 0, none⟩ = some (.int .u32 a0_0) := (blk_cell BK35101.out 0).trans rfl
          have hcz9_1 : w3.cell? ⟨gb35101, 1, none⟩ = some (.string a0_1) := (blk_cell BK35101.out 1).trans rfl
          have hcz9_2 : w3.cell? ⟨gb35101, 2, none⟩ = some (.slice A0_2 l0_2.length c0_2) := (blk_cell BK35101.out 2).trans rfl
          have hcz9_3 : w3.cell? ⟨gb35101, 3, none⟩ = some (.slice A0_3 l0_3.length c0_3) := (blk_cell BK35101.out 3).trans rfl
          have hcz9_4 : w3.cell? ⟨gb35101, 4, none⟩ = some (.slice A0_4 l0_4.length c0_4) := (blk_cell BK35101.out 4).trans rfl
          have hfz9_0 := blk_frozen BK35101.out 0
          have hfz9_1 := blk_frozen BK35101.out 1
          have hfz9_2 := blk_frozen BK35101.out 2
          have hfz9_3 := blk_frozen BK35101.out 3
          have hfz9_4 := blk_frozen BK35101.out 4
          go_wp2_with (first | (go_at_call 42; (with_reducible refine (virgateref15_Owner.calls k a0_1 true _ A5.out).mono ?_); rintro e w' ⟨rfl, ⟨nd, rfl⟩⟩))
          go_meet
          case rel => exact ⟨_, (((l0_2.length : Int) != 64)), (by first | rfl | (simp; done) | (simp [*]; done)), H', ⟨by first | omega | exact Nat.le_refl _⟩, ⟨by (with_reducible repeat (first | refine blk_drewN ?_ _ | refine blk_drew ?_ | refine blk_alloc ?_ _)); exact BK35101.out⟩, ⟨by repeat (first | (with_reducible first | exact HB.out | apply below_alloc | apply pw_below_drewN | apply below_drew1 | refine below_set ?_ GE35101.out) | exact HB.out)⟩⟩
      · replace c6 := Bool.eq_false_iff.mpr c6
        subst c6
        have H1 : (virgateref15_Right.j0 k true a0_0 a0_1 l0_2 l0_3 l0_4) = some r := by rw [if_neg (show ¬ (false = true) by decide)] at H; exact H
        clear H
        have H := H1
        clear H1
        have H' := Aside0.mk H
        clear H
        have hcz10_0 : w3.cell? ⟨gb35101, 0, none⟩ = some (.int .u32 a0_0) := (blk_cell BK35101.out 0).trans rfl
        have hcz10_1 : w3.cell? ⟨gb35101, 1, none⟩ = some (.string a0_1) := (blk_cell BK35101.out 1).trans rfl
        have hcz10_2 : w3.cell? ⟨gb35101, 2, none⟩ = some (.slice A0_2 l0_2.length c0_2) := (blk_cell BK35101.out 2).trans rfl
        have hcz10_3 : w3.cell? ⟨gb35101, 3, none⟩ = some (.slice A0_3 l0_3.length c0_3) := (blk_cell BK35101.out 3).trans rfl
        have hcz10_4 : w3.cell? ⟨gb35101, 4, none⟩ = some (.slice A0_4 l0_4.length c0_4) := (blk_cell BK35101.out 4).trans rfl
        have hfz10_0 := blk_frozen BK35101.out 0
        have hfz10_1 := blk_frozen BK35101.out 1
        have hfz10_2 := blk_frozen BK35101.out 2
        have hfz10_3 := blk_frozen BK35101.out 3
        have hfz10_4 := blk_frozen BK35101.out 4
        go_wp2_with (first | (go_at_call 42; (with_reducible refine (virgateref15_Owner.calls k a0_1 false _ A5.out).mono ?_); rintro e w' ⟨rfl, ⟨nd, rfl⟩⟩))
        go_meet
        case rel => exact ⟨_, (true), (by first | rfl | (simp; done) | (simp [*]; done)), H', ⟨by first | omega | exact Nat.le_refl _⟩, ⟨by (with_reducible repeat (first | refine blk_drewN ?_ _ | refine blk_drew ?_ | refine blk_alloc ?_ _)); exact BK35101.out⟩, ⟨by repeat (first | (with_reducible first | exact HB.out | apply below_alloc | apply pw_below_drewN | apply below_drew1 | refine below_set ?_ GE35101.out) | exact HB.out)⟩⟩
    · rw [if_neg c4] at H
      have c4b0 : ((Int.tmod a0_0 64) == 0) = false := beq_eq_false_iff_ne.mpr c4
      have c4b1 : ((Int.tmod a0_0 64) != 0) = true := bne_iff_ne.mpr c4
      (first | rw [c4b0] | (simp only [i64_w, i32_w]; rw [c4b0]) | skip)
      have H' := Aside0.mk H
      clear H
      have hcz11_0 : w3.cell? ⟨gb35101, 0, none⟩ = some (.int .u32 a0_0) := (blk_cell BK35101.out 0).trans rfl
      have hcz11_1 : w3.cell? ⟨gb35101, 1, none⟩ = some (.string a0_1) := (blk_cell BK35101.out 1).trans rfl
      have hcz11_2 : w3.cell? ⟨gb35101, 2, none⟩ = some (.slice A0_2 l0_2.length c0_2) := (blk_cell BK35101.out 2).trans rfl
      have hcz11_3 : w3.cell? ⟨gb35101, 3, none⟩ = some (.slice A0_3 l0_3.length c0_3) := (blk_cell BK35101.out 3).trans rfl
      have hcz11_4 : w3.cell? ⟨gb35101, 4, none⟩ = some (.slice A0_4 l0_4.length c0_4) := (blk_cell BK35101.out 4).trans rfl
      have hfz11_0 := blk_frozen BK35101.out 0
      have hfz11_1 := blk_frozen BK35101.out 1
      have hfz11_2 := blk_frozen BK35101.out 2
      have hfz11_3 := blk_frozen BK35101.out 3
      have hfz11_4 := blk_frozen BK35101.out 4
      go_wp2
      go_meet
      case rel => exact ⟨_, (true), (by first | rfl | (simp; done) | (simp [*]; done)), H', ⟨by first | omega | exact Nat.le_refl _⟩, ⟨by (with_reducible repeat (first | refine blk_drewN ?_ _ | refine blk_drew ?_ | refine blk_alloc ?_ _)); exact BK35101.out⟩, ⟨by repeat (first | (with_reducible first | exact HB.out | apply below_alloc | apply pw_below_drewN | apply below_drew1 | refine below_set ?_ GE35101.out) | exact HB.out)⟩⟩
  case rest =>
    clear HC2
    try clear p2
    try clear c3
    try clear c4
    try clear c4b0
    try clear c4b1
    try clear c6
    try clear c7
    try clear c7b0
    try clear c7b1
    try clear hcz10_0
    try clear hcz10_1
    try clear hcz10_2
    try clear hcz10_3
    try clear hcz10_4
    try clear hcz11_0
    try clear hcz11_1
    try clear hcz11_2
    try clear hcz11_3
    try clear hcz11_4
    try clear hcz8_0
    try clear hcz8_1
    try clear hcz8_2
    try clear hcz8_3
    try clear hcz8_4
    try clear hcz9_0
    try clear hcz9_1
    try clear hcz9_2
    try clear hcz9_3
    try clear hcz9_4
    try clear hfz10_0
    try clear hfz10_1
    try clear hfz10_2
    try clear hfz10_3
    try clear hfz10_4
    try clear hfz11_0
    try clear hfz11_1
    try clear hfz11_2
    try clear hfz11_3
    try clear hfz11_4
    try clear hfz8_0
    try clear hfz8_1
    try clear hfz8_2
    try clear hfz8_3
    try clear hfz8_4
    try clear hfz9_0
    try clear hfz9_1
    try clear hfz9_2
    try clear hfz9_3
    try clear hfz9_4
    obtain ⟨kq, x33_1, rfl, HA, HJ1, BK35101, HB⟩ := hcut
    cases kq with
    | zero => exact absurd HA.out (by simp [virgateref15_Right.j0])
    | succ kj1 =>
      have H := HA.out
      clear HA
      simp only [virgateref15_Right.j0] at H
      by_cases c12 : x33_1 = true
      · subst c12
        have H1 : (some false) = some r := by rw [if_pos rfl] at H; exact H
        clear H
        have H := H1
        clear H1
        obtain rfl := Option.some.inj H
        go_wp2
        go_ret
        exact ⟨by first | rfl | (simp [errW_none, errW_some] <;> rfl) | (simp [*, errW_none, errW_some] <;> rfl), by repeat (first | (with_reducible first | exact HB.out | apply below_alloc | apply pw_below_drewN | apply below_drew1 | refine below_set ?_ GE35101.out) | exact HB.out)⟩
      · replace c12 := Bool.eq_false_iff.mpr c12
        subst c12
        have H1 : (virgateref15_Right.l0 kj1 l0_4 (l0_4.length : Int) 0 a0_0 a0_1 l0_2 l0_3 l0_4) = some r := by rw [if_neg (show ¬ (false = true) by decide)] at H; exact H
        clear H
        have H := H1
        clear H1
        have H' := Aside0.mk H
        clear H
        have hcz13_0 : wc.cell? ⟨gb35101, 0, none⟩ = some (.int .u32 a0_0) := (blk_cell BK35101.out 0).trans rfl
        have hcz13_1 : wc.cell? ⟨gb35101, 1, none⟩ = some (.string a0_1) := (blk_cell BK35101.out 1).trans rfl
        have hcz13_2 : wc.cell? ⟨gb35101, 2, none⟩ = some (.slice A0_2 l0_2.length c0_2) := (blk_cell BK35101.out 2).trans rfl
        have hcz13_3 : wc.cell? ⟨gb35101, 3, none⟩ = some (.slice A0_3 l0_3.length c0_3) := (blk_cell BK35101.out 3).trans rfl
        have hcz13_4 : wc.cell? ⟨gb35101, 4, none⟩ = some (.slice A0_4 l0_4.length c0_4) := (blk_cell BK35101.out 4).trans rfl
        have hfz13_0 := blk_frozen BK35101.out 0
        have hfz13_1 := blk_frozen BK35101.out 1
        have hfz13_2 := blk_frozen BK35101.out 2
        have hfz13_3 := blk_frozen BK35101.out 3
        have hfz13_4 := blk_frozen BK35101.out 4
        go_wp2
        go_loopg [37] kj1 (fun kq v37 w' => ∃ (x37_2 : Int), v37 = .int .i64 x37_2 ∧ Aside0 (virgateref15_Right.l0 kq l0_4 (l0_4.length : Int) x37_2 a0_0 a0_1 l0_2 l0_3 l0_4 = some r) ∧ Aside0 (kq ≤ kj1) ∧ Aside0 (w'.heap[gb35101]? = some (.cells #[.int .u32 a0_0, .string a0_1, (.slice A0_2 l0_2.length c0_2), (.slice A0_3 l0_3.length c0_3), (.slice A0_4 l0_4.length c0_4)] 62 (0, 0))) ∧ Aside0 (Below w.heap.size w w'))
        case atStart => exact ⟨(0), (by first | rfl | (simp; done) | (simp [*]; done)), H', ⟨Nat.le_refl _⟩, ⟨by (with_reducible repeat (first | refine blk_drewN ?_ _ | refine blk_drew ?_ | refine blk_alloc ?_ _)); exact BK35101.out⟩, ⟨by repeat (first | (with_reducible first | exact HB.out | apply below_alloc | apply pw_below_drewN | apply below_drew1 | refine below_set ?_ GE35101.out) | exact HB.out)⟩⟩
        case round =>
          clear H'
          try clear c1
          try clear p2
          try clear c3
          try clear c4
          try clear c4b0
          try clear c4b1
          try clear c6
          try clear c7
          try clear c7b0
          try clear c7b1
          try clear c12
          try clear hcz10_0
          try clear hcz10_1
          try clear hcz10_2
          try clear hcz10_3
          try clear hcz10_4
          try clear hcz11_0
          try clear hcz11_1
          try clear hcz11_2
          try clear hcz11_3
          try clear hcz11_4
          try clear hcz13_0
          try clear hcz13_1
          try clear hcz13_2
          try clear hcz13_3
          try clear hcz13_4
          try clear hcz8_0
          try clear hcz8_1
          try clear hcz8_2
          try clear hcz8_3
          try clear hcz8_4
          try clear hcz9_0
          try clear hcz9_1
          try clear hcz9_2
          try clear hcz9_3
          try clear hcz9_4
          try clear hfz10_0
          try clear hfz10_1
          try clear hfz10_2
          try clear hfz10_3
          try clear hfz10_4
          try clear hfz11_0
          try clear hfz11_1
          try clear hfz11_2
          try clear hfz11_3
          try clear hfz11_4
          try clear hfz13_0
          try clear hfz13_1
          try clear hfz13_2
          try clear hfz13_3
          try clear hfz13_4
          try clear hfz8_0
          try clear hfz8_1
          try clear hfz8_2
          try clear hfz8_3
          try clear hfz8_4
          try clear hfz9_0
          try clear hfz9_1
          try clear hfz9_2
          try clear hfz9_3
          try clear hfz9_4
          try clear p2
          obtain ⟨x37_2, rfl, HA, HK2, BK35101, HB⟩ := hrel
          cases gk with
          | zero => exact absurd HA.out (by simp [virgateref15_Right.l0])
          | succ k2 =>
            have H := HA.out
            clear HA
            simp only [virgateref15_Right.l0] at H
            by_cases c14 : x37_2 < (l0_4.length : Int)
            · rw [if_pos c14] at H
              have c14b0 : decide (x37_2 < (l0_4.length : Int)) = true := decide_eq_true c14
              clear c14
              by_cases c15 : 0 ≤ x37_2
              · rw [if_pos c15] at H
                have c15b0 : decide (0 ≤ x37_2) = true := decide_eq_true c15
                clear c15
                by_cases c16 : x37_2 < (l0_4.length : Int)
                · rw [if_pos c16] at H
                  have c16b0 : decide (x37_2 < (l0_4.length : Int)) = true := decide_eq_true c16
                  clear c16
                  have HC17 := Aside0.mk H
                  clear H
                  have p35103 : 0 ≤ (x37_2 : Int) := of_decide_eq_true (by first | (with_reducible assumption) | assumption)
                  have q35103 : x37_2 < (l0_4.length : Int) := of_decide_eq_true (by first | (with_reducible assumption) | assumption)
                  obtain ⟨ad35103, e35103, hx35103_0, hx35103_1⟩ := at_T76 HR0_4.out x37_2 p35103 q35103
                  cases e35103
                  replace hx35103_0 := (HB.out.cell (World.block_lt_of_cell? w _ hx35103_0)).trans hx35103_0
                  replace hx35103_1 := (HB.out.cell (World.block_lt_of_cell? w _ hx35103_1)).trans hx35103_1
                  replace p35103 := eq_true p35103
                  replace q35103 := eq_true q35103
                  go_upto_region 6 with (first | ((with_reducible refine gate_dst (N := 4) rfl ?_); (try (refine gate_guard (by rfl) ?_; dsimp only)); refine box_event ?hg (N := 4) ?hd (cs := #[.string (⟨#[]⟩ : ByteArray), .string (⟨#[]⟩ : ByteArray)]) (t := 76) ?hr ?_; (case hd => rfl); (case hg => rfl); (case hr => first | (go_simp; done) | (go_simp; rfl)); intro gb35104 hg w18 hbox hb; have n0_ := Aside0.mk (blk_below (g := gb35101) (o := .cells #[.int .u32 a0_0, .string a0_1, .slice A0_2 l0_2.length c0_2, .slice A0_3 l0_3.length c0_3, .slice (some ad35103) l0_4.length c0_4] 62 (0, 0)) (by (with_reducible repeat (first | refine blk_drewN ?_ _ | refine blk_drew ?_ | refine blk_alloc ?_ _)); exact BK35101.out) hb); have n1_ := Aside0.mk (below_step (by repeat (first | (with_reducible first | exact HB.out | apply below_alloc | apply pw_below_drewN | apply below_drew1 | refine below_set ?_ GE35101.out) | exact HB.out)) hb); have n2_ := Aside0.mk (hbox); have n3_ := Aside0.mk ((by rw [hg]; exact (below_size (by repeat (first | (with_reducible first | exact HB.out | apply below_alloc | apply pw_below_drewN | apply below_drew1 | refine below_set ?_ GE35101.out) | exact HB.out))) : w.heap.size ≤ gb35104)); have n4_ := Aside0.mk ((by rw [hg]; exact (below_size (by repeat (first | (with_reducible first | exact HB.out | apply below_alloc | apply pw_below_drewN | apply below_drew1 | refine below_set ?_ GE35101.out) | exact HB.out))) : w.heap.size ≤ gb35104)); have n5_ := Aside0.mk ((by rw [hg]; exact Nat.ne_of_lt (blk_lt (g := gb35101) (o := .cells #[.int .u32 a0_0, .string a0_1, .slice A0_2 l0_2.length c0_2, .slice A0_3 l0_3.length c0_3, .slice (some ad35103) l0_4.length c0_4] 62 (0, 0)) (by (with_reducible repeat (first | refine blk_drewN ?_ _ | refine blk_drew ?_ | refine blk_alloc ?_ _)); exact BK35101.out)) : gb35101 ≠ gb35104)); have n6_ := Aside0.mk ((by rw [hg]; exact Nat.ne_of_gt (blk_lt (g := gb35101) (o := .cells #[.int .u32 a0_0, .string a0_1, .slice A0_2 l0_2.length c0_2, .slice A0_3 l0_3.length c0_3, .slice (some ad35103) l0_4.length c0_4] 62 (0, 0)) (by (with_reducible repeat (first | refine blk_drewN ?_ _ | refine blk_drew ?_ | refine blk_alloc ?_ _)); exact BK35101.out)) : gb35104 ≠ gb35101)); clear BK35101; clear HB; have BK35101 := n0_; have HB := n1_; have BK35104 := n2_; have GW35104 := n3_; have GE35104 := n4_; have NB35101_35104 := n5_; have NB35104_35101 := n6_; clear n0_ n1_ n2_ n3_ n4_ n5_ n6_; clear hb hbox hg; have hnb19 := NB35104_35101.out; have hnc19 := NB35101_35104.out; have hcz20_0 : w18.cell? ⟨gb35104, 0, none⟩ = some (.string (⟨#[]⟩ : ByteArray)) := (blk_cell BK35104.out 0).trans rfl; have hcz20_1 : w18.cell? ⟨gb35104, 1, none⟩ = some (.string (⟨#[]⟩ : ByteArray)) := (blk_cell BK35104.out 1).trans rfl; have hfz20_0 := blk_frozen BK35104.out 0; have hfz20_1 := blk_frozen BK35104.out 1))
                  (try simp only [Act.put, List.setIfInBounds_toArray, List.set_cons_zero, List.set_cons_succ])
                  go_cut [52] (fun v52 wc => ∃ (kq : Nat) (x52_16 : Bool), v52 = .bool x52_16 ∧ Aside0 (virgateref15_Right.j2 kq x37_2 l0_4 (l0_4.length : Int) x37_2 x52_16 a0_0 a0_1 l0_2 l0_3 l0_4 ((rd_T76 l0_4 x37_2).f0) ((rd_T76 l0_4 x37_2).f1) = some r) ∧ Aside0 (kq ≤ k2) ∧ Aside0 (wc.heap[gb35101]? = some (.cells #[.int .u32 a0_0, .string a0_1, (.slice A0_2 l0_2.length c0_2), (.slice A0_3 l0_3.length c0_3), (.slice (some ad35103) l0_4.length c0_4)] 62 (0, 0))) ∧ Aside0 (wc.heap[gb35104]? = some (.cells #[.string ((rd_T76 l0_4 x37_2).f0), .string ((rd_T76 l0_4 x37_2).f1)] 76 (0, 0))) ∧ Aside0 (Below w.heap.size w wc))
                  case first =>
                    have H := HC17.out
                    clear HC17
                    replace H := Option.bind_eq_some_iff.mp H
                    obtain ⟨t35105, A210, H⟩ := H
                    replace H : (if t35105 = true then ((virgateref15_count.f k2 l0_2 (wrap64 (x37_2 + 1))).bind fun t35106 => (virgateref15_Right.j2 k2 x37_2 l0_4 (l0_4.length : Int) x37_2 (t35106 == 0) a0_0 a0_1 l0_2 l0_3 l0_4 ((rd_T76 l0_4 x37_2).f0) ((rd_T76 l0_4 x37_2).f1))) else (virgateref15_Right.j2 k2 x37_2 l0_4 (l0_4.length : Int) x37_2 true a0_0 a0_1 l0_2 l0_3 l0_4 ((rd_T76 l0_4 x37_2).f0) ((rd_T76 l0_4 x37_2).f1))) = some r := H
                    have A21 := Aside0.mk A210
                    clear A210
                    by_cases c22 : t35105 = true
                    · subst c22
                      have H1 : ((virgateref15_count.f k2 l0_2 (wrap64 (x37_2 + 1))).bind fun t35106 => (virgateref15_Right.j2 k2 x37_2 l0_4 (l0_4.length : Int) x37_2 (t35106 == 0) a0_0 a0_1 l0_2 l0_3 l0_4 ((rd_T76 l0_4 x37_2).f0) ((rd_T76 l0_4 x37_2).f1))) = some r := by rw [if_pos rfl] at H; exact H
                      clear H
                      have H := H1
                      clear H1
                      replace H := Option.bind_eq_some_iff.mp H
                      obtain ⟨t35106, A230, H⟩ := H
                      replace H : (virgateref15_Right.j2 k2 x37_2 l0_4 (l0_4.length : Int) x37_2 (t35106 == 0) a0_0 a0_1 l0_2 l0_3 l0_4 ((rd_T76 l0_4 x37_2).f0) ((rd_T76 l0_4 x37_2).f1)) = some r := H
                      have A23 := Aside0.mk A230
                      clear A230
                      have H' := Aside0.mk H
                      clear H
                      have hnb24 := NB35104_35101.out
                      have hnc24 := NB35101_35104.out
                      have hcz25_0 : w18.cell? ⟨gb35104, 0, none⟩ = some (.string (⟨#[]⟩ : ByteArray)) := (blk_cell BK35104.out 0).trans rfl
                      have hcz25_1 : w18.cell? ⟨gb35104, 1, none⟩ = some (.string (⟨#[]⟩ : ByteArray)) := (blk_cell BK35104.out 1).trans rfl
                      have hfz25_0 := blk_frozen BK35104.out 0
                      have hfz25_1 := blk_frozen BK35104.out 1
                      go_wp2_with (first | ((with_reducible refine gate_callee (f := 60) rfl ?_); refine goesL_ (some 43) rfl rfl Try.func60 (by kernel_rfl) rfl #[.agg #[.string ((rd_T76 l0_4 x37_2).f0), .string ((rd_T76 l0_4 x37_2).f1)]] rfl (by (try simp only [List.map_toArray, List.map_cons, List.map_nil]); first | done | rfl | (simp only [List.length_drop, List.length_take]; rfl)) ?_; (with_reducible refine (virgateref15_May.calls k2 ((rd_T76 l0_4 x37_2).f0) ((rd_T76 l0_4 x37_2).f1) true _ A21.out).mono ?_); rintro e w26 ⟨rfl, hb⟩; refine ⟨_, rfl, ?_⟩; have n0_ := Aside0.mk (blk_below (g := gb35101) (o := .cells #[.int .u32 a0_0, .string a0_1, .slice A0_2 l0_2.length c0_2, .slice A0_3 l0_3.length c0_3, .slice (some ad35103) l0_4.length c0_4] 62 (0, 0)) (by (with_reducible repeat (first | refine blk_drewN ?_ _ | refine blk_drew ?_ | refine blk_alloc ?_ _)); refine blk_far ?_ NB35101_35104.out _; (with_reducible repeat (first | refine blk_drewN ?_ _ | refine blk_drew ?_ | refine blk_alloc ?_ _)); refine blk_far ?_ NB35101_35104.out _; (with_reducible repeat (first | refine blk_drewN ?_ _ | refine blk_drew ?_ | refine blk_alloc ?_ _)); exact BK35101.out) hb); have n1_ := Aside0.mk (blk_below (g := gb35104) (o := .cells #[.string ((rd_T76 l0_4 x37_2).f0), .string ((rd_T76 l0_4 x37_2).f1)] 76 (0, 0)) (by (with_reducible repeat (first | refine blk_drewN ?_ _ | refine blk_drew ?_ | refine blk_alloc ?_ _)); refine blk_put (cs := #[.string ((rd_T76 l0_4 x37_2).f0), .string (⟨#[]⟩ : ByteArray)]) ?_ 1 _ rfl; (with_reducible repeat (first | refine blk_drewN ?_ _ | refine blk_drew ?_ | refine blk_alloc ?_ _)); refine blk_put (cs := #[.string (⟨#[]⟩ : ByteArray), .string (⟨#[]⟩ : ByteArray)]) ?_ 0 _ rfl; (with_reducible repeat (first | refine blk_drewN ?_ _ | refine blk_drew ?_ | refine blk_alloc ?_ _)); exact BK35104.out) hb); have n2_ := Aside0.mk (below_step (by repeat (first | (with_reducible first | exact HB.out | apply below_alloc | apply pw_below_drewN | apply below_drew1 | refine below_set ?_ GE35101.out | refine below_set ?_ GE35104.out) | exact HB.out)) hb); clear BK35101; clear BK35104; clear HB; have BK35101 := n0_; have BK35104 := n1_; have HB := n2_; clear n0_ n1_ n2_; (try clear hb); (try clear hb2); (try clear hk); (try clear hi); have hcz27_0 : w26.cell? ⟨gb35101, 0, none⟩ = some (.int .u32 a0_0) := (blk_cell BK35101.out 0).trans rfl; have hcz27_1 : w26.cell? ⟨gb35101, 1, none⟩ = some (.string a0_1) := (blk_cell BK35101.out 1).trans rfl; have hcz27_2 : w26.cell? ⟨gb35101, 2, none⟩ = some (.slice A0_2 l0_2.length c0_2) := (blk_cell BK35101.out 2).trans rfl; have hcz27_3 : w26.cell? ⟨gb35101, 3, none⟩ = some (.slice A0_3 l0_3.length c0_3) := (blk_cell BK35101.out 3).trans rfl; have hcz27_4 : w26.cell? ⟨gb35101, 4, none⟩ = some (.slice (some ad35103) l0_4.length c0_4) := (blk_cell BK35101.out 4).trans rfl; have hfz27_0 := blk_frozen BK35101.out 0; have hfz27_1 := blk_frozen BK35101.out 1; have hfz27_2 := blk_frozen BK35101.out 2; have hfz27_3 := blk_frozen BK35101.out 3; have hfz27_4 := blk_frozen BK35101.out 4) | (go_at_call 68; (with_reducible refine (virgateref15_count.calls k2 _ _ l0_2 (wrap64 (x37_2 + 1)) t35106 _ ?side1 ?side2 A23.out).mono ?_); (case side1 => repeat (first | exact (Kd.C_below HR0_2.out HB.out) | (with_reducible refine Kd.C_alloc ?_ _) | (with_reducible refine Kd.C_drewN ?_ _) | (with_reducible refine Kd.C_drew ?_))); (case side2 => exact HC0_2.out); rintro e w' ⟨rfl, ⟨nd, rfl⟩⟩))
                      go_meet
                      case rel => exact ⟨_, ((t35106 == 0)), (by first | rfl | (simp; done) | (simp [*]; done)), H', ⟨by have := HJ1.out; have := HK2.out; first | omega | exact Nat.le_refl _⟩, ⟨by (with_reducible repeat (first | refine blk_drewN ?_ _ | refine blk_drew ?_ | refine blk_alloc ?_ _)); exact BK35101.out⟩, ⟨by (with_reducible repeat (first | refine blk_drewN ?_ _ | refine blk_drew ?_ | refine blk_alloc ?_ _)); exact BK35104.out⟩, ⟨by repeat (first | (with_reducible first | exact HB.out | apply below_alloc | apply pw_below_drewN | apply below_drew1 | refine below_set ?_ GE35101.out | refine below_set ?_ GE35104.out) | exact HB.out)⟩⟩
                    · replace c22 := Bool.eq_false_iff.mpr c22
                      subst c22
                      have H1 : (virgateref15_Right.j2 k2 x37_2 l0_4 (l0_4.length : Int) x37_2 true a0_0 a0_1 l0_2 l0_3 l0_4 ((rd_T76 l0_4 x37_2).f0) ((rd_T76 l0_4 x37_2).f1)) = some r := by rw [if_neg (show ¬ (false = true) by decide)] at H; exact H
                      clear H
                      have H := H1
                      clear H1
                      have H' := Aside0.mk H
                      clear H
                      have hnb28 := NB35104_35101.out
                      have hnc28 := NB35101_35104.out
                      have hcz29_0 : w18.cell? ⟨gb35104, 0, none⟩ = some (.string (⟨#[]⟩ : ByteArray)) := (blk_cell BK35104.out 0).trans rfl
                      have hcz29_1 : w18.cell? ⟨gb35104, 1, none⟩ = some (.string (⟨#[]⟩ : ByteArray)) := (blk_cell BK35104.out 1).trans rfl
                      have hfz29_0 := blk_frozen BK35104.out 0
                      have hfz29_1 := blk_frozen BK35104.out 1
                      go_wp2_with (first | ((with_reducible refine gate_callee (f := 60) rfl ?_); refine goesL_ (some 43) rfl rfl Try.func60 (by kernel_rfl) rfl #[.agg #[.string ((rd_T76 l0_4 x37_2).f0), .string ((rd_T76 l0_4 x37_2).f1)]] rfl (by (try simp only [List.map_toArray, List.map_cons, List.map_nil]); first | done | rfl | (simp only [List.length_drop, List.length_take]; rfl)) ?_; (with_reducible refine (virgateref15_May.calls k2 ((rd_T76 l0_4 x37_2).f0) ((rd_T76 l0_4 x37_2).f1) false _ A21.out).mono ?_); rintro e w30 ⟨rfl, hb⟩; refine ⟨_, rfl, ?_⟩; have n0_ := Aside0.mk (blk_below (g := gb35101) (o := .cells #[.int .u32 a0_0, .string a0_1, .slice A0_2 l0_2.length c0_2, .slice A0_3 l0_3.length c0_3, .slice (some ad35103) l0_4.length c0_4] 62 (0, 0)) (by (with_reducible repeat (first | refine blk_drewN ?_ _ | refine blk_drew ?_ | refine blk_alloc ?_ _)); refine blk_far ?_ NB35101_35104.out _; (with_reducible repeat (first | refine blk_drewN ?_ _ | refine blk_drew ?_ | refine blk_alloc ?_ _)); refine blk_far ?_ NB35101_35104.out _; (with_reducible repeat (first | refine blk_drewN ?_ _ | refine blk_drew ?_ | refine blk_alloc ?_ _)); exact BK35101.out) hb); have n1_ := Aside0.mk (blk_below (g := gb35104) (o := .cells #[.string ((rd_T76 l0_4 x37_2).f0), .string ((rd_T76 l0_4 x37_2).f1)] 76 (0, 0)) (by (with_reducible repeat (first | refine blk_drewN ?_ _ | refine blk_drew ?_ | refine blk_alloc ?_ _)); refine blk_put (cs := #[.string ((rd_T76 l0_4 x37_2).f0), .string (⟨#[]⟩ : ByteArray)]) ?_ 1 _ rfl; (with_reducible repeat (first | refine blk_drewN ?_ _ | refine blk_drew ?_ | refine blk_alloc ?_ _)); refine blk_put (cs := #[.string (⟨#[]⟩ : ByteArray), .string (⟨#[]⟩ : ByteArray)]) ?_ 0 _ rfl; (with_reducible repeat (first | refine blk_drewN ?_ _ | refine blk_drew ?_ | refine blk_alloc ?_ _)); exact BK35104.out) hb); have n2_ := Aside0.mk (below_step (by repeat (first | (with_reducible first | exact HB.out | apply below_alloc | apply pw_below_drewN | apply below_drew1 | refine below_set ?_ GE35101.out | refine below_set ?_ GE35104.out) | exact HB.out)) hb); clear BK35101; clear BK35104; clear HB; have BK35101 := n0_; have BK35104 := n1_; have HB := n2_; clear n0_ n1_ n2_; (try clear hb); (try clear hb2); (try clear hk); (try clear hi)))
                      go_meet
                      case rel => exact ⟨_, (true), (by first | rfl | (simp; done) | (simp [*]; done)), H', ⟨by have := HJ1.out; have := HK2.out; first | omega | exact Nat.le_refl _⟩, ⟨by (with_reducible repeat (first | refine blk_drewN ?_ _ | refine blk_drew ?_ | refine blk_alloc ?_ _)); exact BK35101.out⟩, ⟨by (with_reducible repeat (first | refine blk_drewN ?_ _ | refine blk_drew ?_ | refine blk_alloc ?_ _)); exact BK35104.out⟩, ⟨by repeat (first | (with_reducible first | exact HB.out | apply below_alloc | apply pw_below_drewN | apply below_drew1 | refine below_set ?_ GE35101.out | refine below_set ?_ GE35104.out) | exact HB.out)⟩⟩
                  case rest =>
                    clear HC17
                    try clear c1
                    try clear c2
                    try clear p2
                    try clear c3
                    try clear p3
                    try clear q3
                    try clear hx3
                    try clear c4
                    try clear c4b0
                    try clear c4b1
                    try clear c6
                    try clear p6
                    try clear c7
                    try clear c7b0
                    try clear c7b1
                    try clear c12
                    try clear c14
                    try clear c14b0
                    try clear c15
                    try clear c15b0
                    try clear c16
                    try clear c16b0
                    try clear c19
                    try clear c22
                    try clear c24
                    try clear c28
                    try clear hcz10_0
                    try clear hcz10_1
                    try clear hcz10_2
                    try clear hcz10_3
                    try clear hcz10_4
                    try clear hcz11_0
                    try clear hcz11_1
                    try clear hcz11_2
                    try clear hcz11_3
                    try clear hcz11_4
                    try clear hcz13_0
                    try clear hcz13_1
                    try clear hcz13_2
                    try clear hcz13_3
                    try clear hcz13_4
                    try clear hcz20_0
                    try clear hcz20_1
                    try clear hcz25_0
                    try clear hcz25_1
                    try clear hcz27_0
                    try clear hcz27_1
                    try clear hcz27_2
                    try clear hcz27_3
                    try clear hcz27_4
                    try clear hcz29_0
                    try clear hcz29_1
                    try clear hcz8_0
                    try clear hcz8_1
                    try clear hcz8_2
                    try clear hcz8_3
                    try clear hcz8_4
                    try clear hcz9_0
                    try clear hcz9_1
                    try clear hcz9_2
                    try clear hcz9_3
                    try clear hcz9_4
                    try clear hfz10_0
                    try clear hfz10_1
                    try clear hfz10_2
                    try clear hfz10_3
                    try clear hfz10_4
                    try clear hfz11_0
                    try clear hfz11_1
                    try clear hfz11_2
                    try clear hfz11_3
                    try clear hfz11_4
                    try clear hfz13_0
                    try clear hfz13_1
                    try clear hfz13_2
                    try clear hfz13_3
                    try clear hfz13_4
                    try clear hfz20_0
                    try clear hfz20_1
                    try clear hfz25_0
                    try clear hfz25_1
                    try clear hfz27_0
                    try clear hfz27_1
                    try clear hfz27_2
                    try clear hfz27_3
                    try clear hfz27_4
                    try clear hfz29_0
                    try clear hfz29_1
                    try clear hfz8_0
                    try clear hfz8_1
                    try clear hfz8_2
                    try clear hfz8_3
                    try clear hfz8_4
                    try clear hfz9_0
                    try clear hfz9_1
                    try clear hfz9_2
                    try clear hfz9_3
                    try clear hfz9_4
                    try clear hx35103_0
                    try clear hx35103_1
                    try clear p2
                    try clear p35103
                    try clear q35103
                    obtain ⟨kq, x52_16, rfl, HA, HJ16, BK35101, BK35104, HB⟩ := hcut
                    cases kq with
                    | zero => exact absurd HA.out (by simp [virgateref15_Right.j2])
                    | succ kj16 =>
                      have H := HA.out
                      clear HA
                      simp only [virgateref15_Right.j2] at H
                      by_cases c31 : x52_16 = true
                      · subst c31
                        have H1 : (some false) = some r := by rw [if_pos rfl] at H; exact H
                        clear H
                        have H := H1
                        clear H1
                        obtain rfl := Option.some.inj H
                        go_wp2
                        go_ret
                        exact ⟨by first | rfl | (simp [errW_none, errW_some] <;> rfl) | (simp [*, errW_none, errW_some] <;> rfl), by repeat (first | (with_reducible first | exact HB.out | apply below_alloc | apply pw_below_drewN | apply below_drew1 | refine below_set ?_ GE35101.out | refine below_set ?_ GE35104.out) | exact HB.out)⟩
                      · replace c31 := Bool.eq_false_iff.mpr c31
                        subst c31
                        have H1 : (if 0 ≤ x37_2 then (if x37_2 ≤ (l0_4.length : Int) then ((some (l0_4.take (x37_2 : Int).toNat : List (S76))).bind fun y35107 => (virgateref15_Right.l1 kj16 l0_4 (l0_4.length : Int) x37_2 y35107 (y35107.length : Int) 0 a0_0 a0_1 l0_2 l0_3 l0_4 ((rd_T76 l0_4 x37_2).f0) ((rd_T76 l0_4 x37_2).f1))) else (none)) else (none)) = some r := by rw [if_neg (show ¬ (false = true) by decide)] at H; exact H
                        clear H
                        have H := H1
                        clear H1
                        by_cases c32 : 0 ≤ x37_2
                        · rw [if_pos c32] at H
                          have c32b0 := eq_true c32
                          have c32b1 : decide (0 ≤ x37_2) = true := decide_eq_true c32
                          clear c32
                          by_cases c33 : x37_2 ≤ (l0_4.length : Int)
                          · rw [if_pos c33] at H
                            have c33b0 := eq_true c33
                            have c33b1 : decide (x37_2 ≤ (l0_4.length : Int)) = true := decide_eq_true c33
                            clear c33
                            obtain ⟨y35107, hy35107⟩ : ∃ y_ : List (S76), y_ = (l0_4.take (x37_2 : Int).toNat) := ⟨_, rfl⟩
                            replace H : (virgateref15_Right.l1 kj16 l0_4 (l0_4.length : Int) x37_2 y35107 (y35107.length : Int) 0 a0_0 a0_1 l0_2 l0_3 l0_4 ((rd_T76 l0_4 x37_2).f0) ((rd_T76 l0_4 x37_2).f1)) = some r := by first | (rw [hy35107]; with_reducible exact H) | (have H2_ := (Option.bind_some _ _).symm.trans H; rw [hy35107]; with_reducible exact H2_) | (have H2_ := (Option.bind_some _ _).symm.trans H; with_reducible exact H2_) | with_reducible exact H | (rw [hy35107]; exact H) | exact H
                            have Ny35107 := Aside0.mk hy35107
                            clear hy35107
                            have H' := Aside0.mk H
                            clear H
                            have hnb34 := NB35101_35104.out
                            have hnc34 := NB35104_35101.out
                            have hcz35_0 : wc.cell? ⟨gb35101, 0, none⟩ = some (.int .u32 a0_0) := (blk_cell BK35101.out 0).trans rfl
                            have hcz35_1 : wc.cell? ⟨gb35101, 1, none⟩ = some (.string a0_1) := (blk_cell BK35101.out 1).trans rfl
                            have hcz35_2 : wc.cell? ⟨gb35101, 2, none⟩ = some (.slice A0_2 l0_2.length c0_2) := (blk_cell BK35101.out 2).trans rfl
                            have hcz35_3 : wc.cell? ⟨gb35101, 3, none⟩ = some (.slice A0_3 l0_3.length c0_3) := (blk_cell BK35101.out 3).trans rfl
                            have hcz35_4 : wc.cell? ⟨gb35101, 4, none⟩ = some (.slice (some ad35103) l0_4.length c0_4) := (blk_cell BK35101.out 4).trans rfl
                            have hfz35_0 := blk_frozen BK35101.out 0
                            have hfz35_1 := blk_frozen BK35101.out 1
                            have hfz35_2 := blk_frozen BK35101.out 2
                            have hfz35_3 := blk_frozen BK35101.out 3
                            have hfz35_4 := blk_frozen BK35101.out 4
                            have q36 : (x37_2 : Int) ≤ ((l0_4.length : Int) : Int) := of_decide_eq_true (by first | (with_reducible assumption) | assumption)
                            obtain ⟨i036, hi036, _, hsz36, _⟩ := info_parts info76
                            have hroom36 : l0_4.length ≤ c0_4 := HC0_4.out
                            have hC36 : Kd.C k76 _ (some ad35103) l0_4.length l0_4 := HR0_4.out
                            have hcut36 := cut_to (P := Try.prog) 49 76 .i64 Try.underlying49 hi036 (some ad35103) l0_4.length c0_4 x37_2 (of_decide_eq_true (by first | (with_reducible assumption) | assumption)) q36 hroom36
                            have hr36 := Kd.C_take (m := (x37_2 : Int).toNat) hC36 (by omega)
                            have hy36 : y35107.length = (x37_2 : Int).toNat := (by rw [Ny35107.out, List.length_take]; omega)
                            rw [← Ny35107.out] at hr36
                            rw [← hy36] at hcut36
                            have HR35110 := Aside0.mk hr36
                            have HC35110 := Aside0.mk (show y35107.length ≤ c0_4 from by omega)
                            clear hr36 hC36 hroom36 hi036 hsz36
                            have KY36 := Aside0.mk hy36
                            clear hy36
                            replace q36 := eq_true q36
                            go_wp2
                            go_loopg [58] kj16 (fun kq v58 w' => ∃ (x58_4 : Int), v58 = .int .i64 x58_4 ∧ Aside0 (virgateref15_Right.l1 kq l0_4 (l0_4.length : Int) x37_2 y35107 (y35107.length : Int) x58_4 a0_0 a0_1 l0_2 l0_3 l0_4 ((rd_T76 l0_4 x37_2).f0) ((rd_T76 l0_4 x37_2).f1) = some r) ∧ Aside0 (kq ≤ kj16) ∧ Aside0 (w'.heap[gb35101]? = some (.cells #[.int .u32 a0_0, .string a0_1, (.slice A0_2 l0_2.length c0_2), (.slice A0_3 l0_3.length c0_3), (.slice (some ad35103) l0_4.length c0_4)] 62 (0, 0))) ∧ Aside0 (w'.heap[gb35104]? = some (.cells #[.string ((rd_T76 l0_4 x37_2).f0), .string ((rd_T76 l0_4 x37_2).f1)] 76 (0, 0))) ∧ Aside0 (Below w.heap.size w w'))
                            case atStart => exact ⟨(0), (by first | rfl | (simp; done) | (simp [*]; done)), H', ⟨Nat.le_refl _⟩, ⟨by (with_reducible repeat (first | refine blk_drewN ?_ _ | refine blk_drew ?_ | refine blk_alloc ?_ _)); exact BK35101.out⟩, ⟨by (with_reducible repeat (first | refine blk_drewN ?_ _ | refine blk_drew ?_ | refine blk_alloc ?_ _)); exact BK35104.out⟩, ⟨by repeat (first | (with_reducible first | exact HB.out | apply below_alloc | apply pw_below_drewN | apply below_drew1 | refine below_set ?_ GE35101.out | refine below_set ?_ GE35104.out) | exact HB.out)⟩⟩
                            case round =>
                              clear H'
                              try clear c1
                              try clear c2
                              try clear p2
                              try clear c3
                              try clear p3
                              try clear q3
                              try clear hx3
                              try clear c4
                              try clear c4b0
                              try clear c4b1
                              try clear c6
                              try clear p6
                              try clear c7
                              try clear c7b0
                              try clear c7b1
                              try clear c12
                              try clear c14
                              try clear c14b0
                              try clear c15
                              try clear c15b0
                              try clear c16
                              try clear c16b0
                              try clear c19
                              try clear c22
                              try clear c24
                              try clear c28
                              try clear c31
                              try clear c32
                              try clear c32b0
                              try clear c32b1
                              try clear c33
                              try clear c33b0
                              try clear c33b1
                              try clear c34
                              try clear c35
                              try clear p35
                              try clear q35
                              try clear hx35
                              try clear q36
                              try clear hcz10_0
                              try clear hcz10_1
                              try clear hcz10_2
                              try clear hcz10_3
                              try clear hcz10_4
                              try clear hcz11_0
                              try clear hcz11_1
                              try clear hcz11_2
                              try clear hcz11_3
                              try clear hcz11_4
                              try clear hcz13_0
                              try clear hcz13_1
                              try clear hcz13_2
                              try clear hcz13_3
                              try clear hcz13_4
                              try clear hcz20_0
                              try clear hcz20_1
                              try clear hcz25_0
                              try clear hcz25_1
                              try clear hcz27_0
                              try clear hcz27_1
                              try clear hcz27_2
                              try clear hcz27_3
                              try clear hcz27_4
                              try clear hcz29_0
                              try clear hcz29_1
                              try clear hcz35_0
                              try clear hcz35_1
                              try clear hcz35_2
                              try clear hcz35_3
                              try clear hcz35_4
                              try clear hcz8_0
                              try clear hcz8_1
                              try clear hcz8_2
                              try clear hcz8_3
                              try clear hcz8_4
                              try clear hcz9_0
                              try clear hcz9_1
                              try clear hcz9_2
                              try clear hcz9_3
                              try clear hcz9_4
                              try clear hfz10_0
                              try clear hfz10_1
                              try clear hfz10_2
                              try clear hfz10_3
                              try clear hfz10_4
                              try clear hfz11_0
                              try clear hfz11_1
                              try clear hfz11_2
                              try clear hfz11_3
                              try clear hfz11_4
                              try clear hfz13_0
                              try clear hfz13_1
                              try clear hfz13_2
                              try clear hfz13_3
                              try clear hfz13_4
                              try clear hfz20_0
                              try clear hfz20_1
                              try clear hfz25_0
                              try clear hfz25_1
                              try clear hfz27_0
                              try clear hfz27_1
                              try clear hfz27_2
                              try clear hfz27_3
                              try clear hfz27_4
                              try clear hfz29_0
                              try clear hfz29_1
                              try clear hfz35_0
                              try clear hfz35_1
                              try clear hfz35_2
                              try clear hfz35_3
                              try clear hfz35_4
                              try clear hfz8_0
                              try clear hfz8_1
                              try clear hfz8_2
                              try clear hfz8_3
                              try clear hfz8_4
                              try clear hfz9_0
                              try clear hfz9_1
                              try clear hfz9_2
                              try clear hfz9_3
                              try clear hfz9_4
                              try clear hx35103_0
                              try clear hx35103_1
                              try clear p2
                              try clear p3
                              try clear p35103
                              try clear p6
                              try clear q3
                              try clear q35103
                              try clear q36
                              obtain ⟨x58_4, rfl, HA, HK4, BK35101, BK35104, HB⟩ := hrel
                              cases gk with
                              | zero => exact absurd HA.out (by simp [virgateref15_Right.l1])
                              | succ k4 =>
                                have H := HA.out
                                clear HA
                                simp only [virgateref15_Right.l1] at H
                                by_cases c37 : x58_4 < (y35107.length : Int)
                                · rw [if_pos c37] at H
                                  have c37b0 : decide (x58_4 < (y35107.length : Int)) = true := decide_eq_true c37
                                  clear c37
                                  by_cases c38 : 0 ≤ x58_4
                                  · rw [if_pos c38] at H
                                    have c38b0 : decide (0 ≤ x58_4) = true := decide_eq_true c38
                                    clear c38
                                    by_cases c39 : x58_4 < (y35107.length : Int)
                                    · rw [if_pos c39] at H
                                      have c39b0 : decide (x58_4 < (y35107.length : Int)) = true := decide_eq_true c39
                                      clear c39
                                      by_cases c40 : ((((rd_T76 y35107 x58_4).f0).toList) == ((rd_T76 l0_4 x37_2).f0).toList && ((((rd_T76 y35107 x58_4).f1).toList) == ((rd_T76 l0_4 x37_2).f1).toList)) = true
                                      · rw [if_pos c40] at H
                                        have c40b0 : ((((rd_T76 y35107 x58_4).f0).toList) == ((rd_T76 l0_4 x37_2).f0).toList && ((((rd_T76 y35107 x58_4).f1).toList) == ((rd_T76 l0_4 x37_2).f1).toList)) = true := c40
                                        (try (have c40b1 : decide ((((rd_T76 y35107 x58_4).f0).toList) = ((rd_T76 l0_4 x37_2).f0).toList && ((((rd_T76 y35107 x58_4).f1).toList) == ((rd_T76 l0_4 x37_2).f1).toList)) = true := by simpa using c40))
                                        (try (have c40b2 : ((((rd_T76 y35107 x58_4).f0).toList) == ((rd_T76 l0_4 x37_2).f0).toList && ((((rd_T76 y35107 x58_4).f1).toList) == ((rd_T76 l0_4 x37_2).f1).toList)) = true := by simpa using c40))
                                        clear c40
                                        obtain rfl := Option.some.inj H
                                        have p35111 : 0 ≤ (x58_4 : Int) := of_decide_eq_true (by first | (with_reducible assumption) | assumption)
                                        have q35111 : x58_4 < (y35107.length : Int) := of_decide_eq_true (by first | (with_reducible assumption) | assumption)
                                        obtain ⟨ad35111, e35111, hx35111_0, hx35111_1⟩ := at_T76 HR35110.out x58_4 p35111 q35111
                                        obtain rfl : ad35103 = ad35111 := (by injection e35111)
                                        replace hx35111_0 := (HB.out.cell (World.block_lt_of_cell? w _ hx35111_0)).trans hx35111_0
                                        replace hx35111_1 := (HB.out.cell (World.block_lt_of_cell? w _ hx35111_1)).trans hx35111_1
                                        replace p35111 := eq_true p35111
                                        replace q35111 := eq_true q35111
                                        go_wp2_with (first | ((with_reducible refine gate_dst (N := 6) rfl ?_); (try (refine gate_guard (by rfl) ?_; dsimp only)); refine box_event ?hg (N := 6) ?hd (cs := #[.string (⟨#[]⟩ : ByteArray), .string (⟨#[]⟩ : ByteArray)]) (t := 76) ?hr ?_; (case hd => rfl); (case hg => rfl); (case hr => first | (go_simp; done) | (go_simp; rfl)); intro gb35112 hg w41 hbox hb; have n0_ := Aside0.mk (blk_below (g := gb35101) (o := .cells #[.int .u32 a0_0, .string a0_1, .slice A0_2 l0_2.length c0_2, .slice A0_3 l0_3.length c0_3, .slice (some ad35103) l0_4.length c0_4] 62 (0, 0)) (by (with_reducible repeat (first | refine blk_drewN ?_ _ | refine blk_drew ?_ | refine blk_alloc ?_ _)); exact BK35101.out) hb); have n1_ := Aside0.mk (blk_below (g := gb35104) (o := .cells #[.string ((rd_T76 l0_4 x37_2).f0), .string ((rd_T76 l0_4 x37_2).f1)] 76 (0, 0)) (by (with_reducible repeat (first | refine blk_drewN ?_ _ | refine blk_drew ?_ | refine blk_alloc ?_ _)); exact BK35104.out) hb); have n2_ := Aside0.mk (below_step (by repeat (first | (with_reducible first | exact HB.out | apply below_alloc | apply pw_below_drewN | apply below_drew1 | refine below_set ?_ GE35101.out | refine below_set ?_ GE35104.out) | exact HB.out)) hb); have n3_ := Aside0.mk (hbox); have n4_ := Aside0.mk ((by rw [hg]; exact (below_size (by repeat (first | (with_reducible first | exact HB.out | apply below_alloc | apply pw_below_drewN | apply below_drew1 | refine below_set ?_ GE35101.out | refine below_set ?_ GE35104.out) | exact HB.out))) : w.heap.size ≤ gb35112)); have n5_ := Aside0.mk ((by rw [hg]; exact (below_size (by repeat (first | (with_reducible first | exact HB.out | apply below_alloc | apply pw_below_drewN | apply below_drew1 | refine below_set ?_ GE35101.out | refine below_set ?_ GE35104.out) | exact HB.out))) : w.heap.size ≤ gb35112)); have n6_ := Aside0.mk ((by rw [hg]; exact Nat.ne_of_lt (blk_lt (g := gb35101) (o := .cells #[.int .u32 a0_0, .string a0_1, .slice A0_2 l0_2.length c0_2, .slice A0_3 l0_3.length c0_3, .slice (some ad35103) l0_4.length c0_4] 62 (0, 0)) (by (with_reducible repeat (first | refine blk_drewN ?_ _ | refine blk_drew ?_ | refine blk_alloc ?_ _)); exact BK35101.out)) : gb35101 ≠ gb35112)); have n7_ := Aside0.mk ((by rw [hg]; exact Nat.ne_of_gt (blk_lt (g := gb35101) (o := .cells #[.int .u32 a0_0, .string a0_1, .slice A0_2 l0_2.length c0_2, .slice A0_3 l0_3.length c0_3, .slice (some ad35103) l0_4.length c0_4] 62 (0, 0)) (by (with_reducible repeat (first | refine blk_drewN ?_ _ | refine blk_drew ?_ | refine blk_alloc ?_ _)); exact BK35101.out)) : gb35112 ≠ gb35101)); have n8_ := Aside0.mk ((by rw [hg]; exact Nat.ne_of_lt (blk_lt (g := gb35104) (o := .cells #[.string ((rd_T76 l0_4 x37_2).f0), .string ((rd_T76 l0_4 x37_2).f1)] 76 (0, 0)) (by (with_reducible repeat (first | refine blk_drewN ?_ _ | refine blk_drew ?_ | refine blk_alloc ?_ _)); exact BK35104.out)) : gb35104 ≠ gb35112)); have n9_ := Aside0.mk ((by rw [hg]; exact Nat.ne_of_gt (blk_lt (g := gb35104) (o := .cells #[.string ((rd_T76 l0_4 x37_2).f0), .string ((rd_T76 l0_4 x37_2).f1)] 76 (0, 0)) (by (with_reducible repeat (first | refine blk_drewN ?_ _ | refine blk_drew ?_ | refine blk_alloc ?_ _)); exact BK35104.out)) : gb35112 ≠ gb35104)); clear BK35101; clear BK35104; clear HB; have BK35101 := n0_; have BK35104 := n1_; have HB := n2_; have BK35112 := n3_; have GW35112 := n4_; have GE35112 := n5_; have NB35101_35112 := n6_; have NB35112_35101 := n7_; have NB35104_35112 := n8_; have NB35112_35104 := n9_; clear n0_ n1_ n2_ n3_ n4_ n5_ n6_ n7_ n8_ n9_; clear hb hbox hg; have hnb42 := NB35112_35101.out; have hnc42 := NB35101_35112.out; have hnb43 := NB35112_35104.out; have hnc43 := NB35104_35112.out; have hcz44_0 : w41.cell? ⟨gb35112, 0, none⟩ = some (.string (⟨#[]⟩ : ByteArray)) := (blk_cell BK35112.out 0).trans rfl; have hcz44_1 : w41.cell? ⟨gb35112, 1, none⟩ = some (.string (⟨#[]⟩ : ByteArray)) := (blk_cell BK35112.out 1).trans rfl; have hfz44_0 := blk_frozen BK35112.out 0; have hfz44_1 := blk_frozen BK35112.out 1; have hnb45 := NB35104_35101.out; have hnc45 := NB35101_35104.out; have hcz46_0 : w41.cell? ⟨gb35104, 0, none⟩ = some (.string ((rd_T76 l0_4 x37_2).f0)) := (blk_cell BK35104.out 0).trans rfl; have hcz46_1 : w41.cell? ⟨gb35104, 1, none⟩ = some (.string ((rd_T76 l0_4 x37_2).f1)) := (blk_cell BK35104.out 1).trans rfl; have hfz46_0 := blk_frozen BK35104.out 0; have hfz46_1 := blk_frozen BK35104.out 1))
                                        go_ret
                                        exact ⟨by first | rfl | (simp [errW_none, errW_some] <;> rfl) | (simp [*, errW_none, errW_some] <;> rfl), by repeat (first | (with_reducible first | exact HB.out | apply below_alloc | apply pw_below_drewN | apply below_drew1 | refine below_set ?_ GE35101.out | refine below_set ?_ GE35104.out | refine below_set ?_ GE35112.out) | exact HB.out)⟩
                                      · rw [if_neg c40] at H
                                        have c40b0 : ((((rd_T76 y35107 x58_4).f0).toList) == ((rd_T76 l0_4 x37_2).f0).toList && ((((rd_T76 y35107 x58_4).f1).toList) == ((rd_T76 l0_4 x37_2).f1).toList)) = false := by simpa using c40
                                        (try (have c40b1 : decide ((((rd_T76 y35107 x58_4).f0).toList) = ((rd_T76 l0_4 x37_2).f0).toList && ((((rd_T76 y35107 x58_4).f1).toList) == ((rd_T76 l0_4 x37_2).f1).toList)) = false := by simpa using c40))
                                        (try (have c40b2 : ((((rd_T76 y35107 x58_4).f0).toList) == ((rd_T76 l0_4 x37_2).f0).toList && ((((rd_T76 y35107 x58_4).f1).toList) == ((rd_T76 l0_4 x37_2).f1).toList)) = false := by simpa using c40))
                                        (try (have c40b3 : ¬ ((((rd_T76 y35107 x58_4).f0).toList) = ((rd_T76 l0_4 x37_2).f0).toList && ((((rd_T76 y35107 x58_4).f1).toList) == ((rd_T76 l0_4 x37_2).f1).toList)) := by simpa using c40))
                                        clear c40
                                        have H' := Aside0.mk H
                                        clear H
                                        have p35111 : 0 ≤ (x58_4 : Int) := of_decide_eq_true (by first | (with_reducible assumption) | assumption)
                                        have q35111 : x58_4 < (y35107.length : Int) := of_decide_eq_true (by first | (with_reducible assumption) | assumption)
                                        obtain ⟨ad35111, e35111, hx35111_0, hx35111_1⟩ := at_T76 HR35110.out x58_4 p35111 q35111
                                        obtain rfl : ad35103 = ad35111 := (by injection e35111)
                                        replace hx35111_0 := (HB.out.cell (World.block_lt_of_cell? w _ hx35111_0)).trans hx35111_0
                                        replace hx35111_1 := (HB.out.cell (World.block_lt_of_cell? w _ hx35111_1)).trans hx35111_1
                                        replace p35111 := eq_true p35111
                                        replace q35111 := eq_true q35111
                                        go_wp2_with (first | ((with_reducible refine gate_dst (N := 6) rfl ?_); (try (refine gate_guard (by rfl) ?_; dsimp only)); refine box_event ?hg (N := 6) ?hd (cs := #[.string (⟨#[]⟩ : ByteArray), .string (⟨#[]⟩ : ByteArray)]) (t := 76) ?hr ?_; (case hd => rfl); (case hg => rfl); (case hr => first | (go_simp; done) | (go_simp; rfl)); intro gb35112 hg w47 hbox hb; have n0_ := Aside0.mk (blk_below (g := gb35101) (o := .cells #[.int .u32 a0_0, .string a0_1, .slice A0_2 l0_2.length c0_2, .slice A0_3 l0_3.length c0_3, .slice (some ad35103) l0_4.length c0_4] 62 (0, 0)) (by (with_reducible repeat (first | refine blk_drewN ?_ _ | refine blk_drew ?_ | refine blk_alloc ?_ _)); exact BK35101.out) hb); have n1_ := Aside0.mk (blk_below (g := gb35104) (o := .cells #[.string ((rd_T76 l0_4 x37_2).f0), .string ((rd_T76 l0_4 x37_2).f1)] 76 (0, 0)) (by (with_reducible repeat (first | refine blk_drewN ?_ _ | refine blk_drew ?_ | refine blk_alloc ?_ _)); exact BK35104.out) hb); have n2_ := Aside0.mk (below_step (by repeat (first | (with_reducible first | exact HB.out | apply below_alloc | apply pw_below_drewN | apply below_drew1 | refine below_set ?_ GE35101.out | refine below_set ?_ GE35104.out) | exact HB.out)) hb); have n3_ := Aside0.mk (hbox); have n4_ := Aside0.mk ((by rw [hg]; exact (below_size (by repeat (first | (with_reducible first | exact HB.out | apply below_alloc | apply pw_below_drewN | apply below_drew1 | refine below_set ?_ GE35101.out | refine below_set ?_ GE35104.out) | exact HB.out))) : w.heap.size ≤ gb35112)); have n5_ := Aside0.mk ((by rw [hg]; exact (below_size (by repeat (first | (with_reducible first | exact HB.out | apply below_alloc | apply pw_below_drewN | apply below_drew1 | refine below_set ?_ GE35101.out | refine below_set ?_ GE35104.out) | exact HB.out))) : w.heap.size ≤ gb35112)); have n6_ := Aside0.mk ((by rw [hg]; exact Nat.ne_of_lt (blk_lt (g := gb35101) (o := .cells #[.int .u32 a0_0, .string a0_1, .slice A0_2 l0_2.length c0_2, .slice A0_3 l0_3.length c0_3, .slice (some ad35103) l0_4.length c0_4] 62 (0, 0)) (by (with_reducible repeat (first | refine blk_drewN ?_ _ | refine blk_drew ?_ | refine blk_alloc ?_ _)); exact BK35101.out)) : gb35101 ≠ gb35112)); have n7_ := Aside0.mk ((by rw [hg]; exact Nat.ne_of_gt (blk_lt (g := gb35101) (o := .cells #[.int .u32 a0_0, .string a0_1, .slice A0_2 l0_2.length c0_2, .slice A0_3 l0_3.length c0_3, .slice (some ad35103) l0_4.length c0_4] 62 (0, 0)) (by (with_reducible repeat (first | refine blk_drewN ?_ _ | refine blk_drew ?_ | refine blk_alloc ?_ _)); exact BK35101.out)) : gb35112 ≠ gb35101)); have n8_ := Aside0.mk ((by rw [hg]; exact Nat.ne_of_lt (blk_lt (g := gb35104) (o := .cells #[.string ((rd_T76 l0_4 x37_2).f0), .string ((rd_T76 l0_4 x37_2).f1)] 76 (0, 0)) (by (with_reducible repeat (first | refine blk_drewN ?_ _ | refine blk_drew ?_ | refine blk_alloc ?_ _)); exact BK35104.out)) : gb35104 ≠ gb35112)); have n9_ := Aside0.mk ((by rw [hg]; exact Nat.ne_of_gt (blk_lt (g := gb35104) (o := .cells #[.string ((rd_T76 l0_4 x37_2).f0), .string ((rd_T76 l0_4 x37_2).f1)] 76 (0, 0)) (by (with_reducible repeat (first | refine blk_drewN ?_ _ | refine blk_drew ?_ | refine blk_alloc ?_ _)); exact BK35104.out)) : gb35112 ≠ gb35104)); clear BK35101; clear BK35104; clear HB; have BK35101 := n0_; have BK35104 := n1_; have HB := n2_; have BK35112 := n3_; have GW35112 := n4_; have GE35112 := n5_; have NB35101_35112 := n6_; have NB35112_35101 := n7_; have NB35104_35112 := n8_; have NB35112_35104 := n9_; clear n0_ n1_ n2_ n3_ n4_ n5_ n6_ n7_ n8_ n9_; clear hb hbox hg; have hnb48 := NB35112_35101.out; have hnc48 := NB35101_35112.out; have hnb49 := NB35112_35104.out; have hnc49 := NB35104_35112.out; have hcz50_0 : w47.cell? ⟨gb35112, 0, none⟩ = some (.string (⟨#[]⟩ : ByteArray)) := (blk_cell BK35112.out 0).trans rfl; have hcz50_1 : w47.cell? ⟨gb35112, 1, none⟩ = some (.string (⟨#[]⟩ : ByteArray)) := (blk_cell BK35112.out 1).trans rfl; have hfz50_0 := blk_frozen BK35112.out 0; have hfz50_1 := blk_frozen BK35112.out 1; have hnb51 := NB35104_35101.out; have hnc51 := NB35101_35104.out; have hcz52_0 : w47.cell? ⟨gb35104, 0, none⟩ = some (.string ((rd_T76 l0_4 x37_2).f0)) := (blk_cell BK35104.out 0).trans rfl; have hcz52_1 : w47.cell? ⟨gb35104, 1, none⟩ = some (.string ((rd_T76 l0_4 x37_2).f1)) := (blk_cell BK35104.out 1).trans rfl; have hfz52_0 := blk_frozen BK35104.out 0; have hfz52_1 := blk_frozen BK35104.out 1))
                                        go_roundg k4
                                        case measure => have := HJ1.out; have := HK2.out; have := HJ16.out; have := HK4.out; omega
                                        case rel => exact ⟨(wrap64 (x58_4 + 1)), (by first | rfl | (simp; done) | (simp [*]; done)), H', ⟨by have := HJ1.out; have := HK2.out; have := HJ16.out; have := HK4.out; omega⟩, ⟨by (with_reducible repeat (first | refine blk_drewN ?_ _ | refine blk_drew ?_ | refine blk_alloc ?_ _)); refine blk_far ?_ NB35101_35112.out _; (with_reducible repeat (first | refine blk_drewN ?_ _ | refine blk_drew ?_ | refine blk_alloc ?_ _)); refine blk_far ?_ NB35101_35112.out _; (with_reducible repeat (first | refine blk_drewN ?_ _ | refine blk_drew ?_ | refine blk_alloc ?_ _)); exact BK35101.out⟩, ⟨by (with_reducible repeat (first | refine blk_drewN ?_ _ | refine blk_drew ?_ | refine blk_alloc ?_ _)); refine blk_far ?_ NB35104_35112.out _; (with_reducible repeat (first | refine blk_drewN ?_ _ | refine blk_drew ?_ | refine blk_alloc ?_ _)); refine blk_far ?_ NB35104_35112.out _; (with_reducible repeat (first | refine blk_drewN ?_ _ | refine blk_drew ?_ | refine blk_alloc ?_ _)); exact BK35104.out⟩, ⟨by repeat (first | (with_reducible first | exact HB.out | apply below_alloc | apply pw_below_drewN | apply below_drew1 | refine below_set ?_ GE35101.out | refine below_set ?_ GE35104.out | refine below_set ?_ GE35112.out) | exact HB.out)⟩⟩
                                    · rw [if_neg c39] at H
                                      exact absurd H (by simp)
                                  · rw [if_neg c38] at H
                                    exact absurd H (by simp)
                                · rw [if_neg c37] at H
                                  have c37b0 : decide (x58_4 < (y35107.length : Int)) = false := decide_eq_false c37
                                  clear c37
                                  have H' := Aside0.mk H
                                  clear H
                                  go_wp2
                                  go_roundg k4
                                  case measure => have := HJ1.out; have := HK2.out; have := HJ16.out; have := HK4.out; omega
                                  case rel => exact ⟨(wrap64 (x37_2 + 1)), (by first | rfl | (simp; done) | (simp [*]; done)), H', ⟨by have := HJ1.out; have := HK2.out; have := HJ16.out; have := HK4.out; omega⟩, ⟨by (with_reducible repeat (first | refine blk_drewN ?_ _ | refine blk_drew ?_ | refine blk_alloc ?_ _)); exact BK35101.out⟩, ⟨by repeat (first | (with_reducible first | exact HB.out | apply below_alloc | apply pw_below_drewN | apply below_drew1 | refine below_set ?_ GE35101.out | refine below_set ?_ GE35104.out) | exact HB.out)⟩⟩
                          · rw [if_neg c33] at H
                            exact absurd H (by simp)
                        · rw [if_neg c32] at H
                          exact absurd H (by simp)
                · rw [if_neg c16] at H
                  exact absurd H (by simp)
              · rw [if_neg c15] at H
                exact absurd H (by simp)
            · rw [if_neg c14] at H
              have c14b0 : decide (x37_2 < (l0_4.length : Int)) = false := decide_eq_false c14
              clear c14
              have H' := Aside0.mk H
              clear H
              have hcz53_0 : wr.cell? ⟨gb35101, 0, none⟩ = some (.int .u32 a0_0) := (blk_cell BK35101.out 0).trans rfl
              have hcz53_1 : wr.cell? ⟨gb35101, 1, none⟩ = some (.string a0_1) := (blk_cell BK35101.out 1).trans rfl
              have hcz53_2 : wr.cell? ⟨gb35101, 2, none⟩ = some (.slice A0_2 l0_2.length c0_2) := (blk_cell BK35101.out 2).trans rfl
              have hcz53_3 : wr.cell? ⟨gb35101, 3, none⟩ = some (.slice A0_3 l0_3.length c0_3) := (blk_cell BK35101.out 3).trans rfl
              have hcz53_4 : wr.cell? ⟨gb35101, 4, none⟩ = some (.slice A0_4 l0_4.length c0_4) := (blk_cell BK35101.out 4).trans rfl
              have hfz53_0 := blk_frozen BK35101.out 0
              have hfz53_1 := blk_frozen BK35101.out 1
              have hfz53_2 := blk_frozen BK35101.out 2
              have hfz53_3 := blk_frozen BK35101.out 3
              have hfz53_4 := blk_frozen BK35101.out 4
              go_wp2
              go_loopg [70] k2 (fun kq v70 w' => ∃ (x70_3 : Int), v70 = .int .i64 x70_3 ∧ Aside0 (virgateref15_Right.l2 kq l0_2 (l0_2.length : Int) x70_3 a0_0 a0_1 l0_2 l0_3 l0_4 = some r) ∧ Aside0 (kq ≤ k2) ∧ Aside0 (w'.heap[gb35101]? = some (.cells #[.int .u32 a0_0, .string a0_1, (.slice A0_2 l0_2.length c0_2), (.slice A0_3 l0_3.length c0_3), (.slice A0_4 l0_4.length c0_4)] 62 (0, 0))) ∧ Aside0 (Below w.heap.size w w'))
              case atStart => exact ⟨(0), (by first | rfl | (simp; done) | (simp [*]; done)), H', ⟨Nat.le_refl _⟩, ⟨by (with_reducible repeat (first | refine blk_drewN ?_ _ | refine blk_drew ?_ | refine blk_alloc ?_ _)); exact BK35101.out⟩, ⟨by repeat (first | (with_reducible first | exact HB.out | apply below_alloc | apply pw_below_drewN | apply below_drew1 | refine below_set ?_ GE35101.out) | exact HB.out)⟩⟩
              case round =>
                clear H'
                try clear c1
                try clear c2
                try clear p2
                try clear c3
                try clear p3
                try clear q3
                try clear hx3
                try clear c4
                try clear c4b0
                try clear c4b1
                try clear c5
                try clear c6
                try clear p6
                try clear c7
                try clear c7b0
                try clear c7b1
                try clear c12
                try clear c14
                try clear c14b0
                try clear c15
                try clear c15b0
                try clear c16
                try clear c16b0
                try clear c19
                try clear c22
                try clear c24
                try clear c28
                try clear c31
                try clear c32
                try clear c32b0
                try clear c32b1
                try clear c33
                try clear c33b0
                try clear c33b1
                try clear c34
                try clear c35
                try clear p35
                try clear q35
                try clear hx35
                try clear q36
                try clear c37
                try clear c37b0
                try clear c38
                try clear c38b0
                try clear c39
                try clear c39b0
                try clear c40
                try clear c40b0
                try clear c40b1
                try clear c40b2
                try clear c42
                try clear c43
                try clear c45
                try clear c48
                try clear c49
                try clear c51
                try clear hcz10_0
                try clear hcz10_1
                try clear hcz10_2
                try clear hcz10_3
                try clear hcz10_4
                try clear hcz11_0
                try clear hcz11_1
                try clear hcz11_2
                try clear hcz11_3
                try clear hcz11_4
                try clear hcz13_0
                try clear hcz13_1
                try clear hcz13_2
                try clear hcz13_3
                try clear hcz13_4
                try clear hcz20_0
                try clear hcz20_1
                try clear hcz25_0
                try clear hcz25_1
                try clear hcz27_0
                try clear hcz27_1
                try clear hcz27_2
                try clear hcz27_3
                try clear hcz27_4
                try clear hcz29_0
                try clear hcz29_1
                try clear hcz35_0
                try clear hcz35_1
                try clear hcz35_2
                try clear hcz35_3
                try clear hcz35_4
                try clear hcz44_0
                try clear hcz44_1
                try clear hcz46_0
                try clear hcz46_1
                try clear hcz50_0
                try clear hcz50_1
                try clear hcz52_0
                try clear hcz52_1
                try clear hcz53_0
                try clear hcz53_1
                try clear hcz53_2
                try clear hcz53_3
                try clear hcz53_4
                try clear hcz8_0
                try clear hcz8_1
                try clear hcz8_2
                try clear hcz8_3
                try clear hcz8_4
                try clear hcz9_0
                try clear hcz9_1
                try clear hcz9_2
                try clear hcz9_3
                try clear hcz9_4
                try clear hfz10_0
                try clear hfz10_1
                try clear hfz10_2
                try clear hfz10_3
                try clear hfz10_4
                try clear hfz11_0
                try clear hfz11_1
                try clear hfz11_2
                try clear hfz11_3
                try clear hfz11_4
                try clear hfz13_0
                try clear hfz13_1
                try clear hfz13_2
                try clear hfz13_3
                try clear hfz13_4
                try clear hfz20_0
                try clear hfz20_1
                try clear hfz25_0
                try clear hfz25_1
                try clear hfz27_0
                try clear hfz27_1
                try clear hfz27_2
                try clear hfz27_3
                try clear hfz27_4
                try clear hfz29_0
                try clear hfz29_1
                try clear hfz35_0
                try clear hfz35_1
                try clear hfz35_2
                try clear hfz35_3
                try clear hfz35_4
                try clear hfz44_0
                try clear hfz44_1
                try clear hfz46_0
                try clear hfz46_1
                try clear hfz50_0
                try clear hfz50_1
                try clear hfz52_0
                try clear hfz52_1
                try clear hfz53_0
                try clear hfz53_1
                try clear hfz53_2
                try clear hfz53_3
                try clear hfz53_4
                try clear hfz8_0
                try clear hfz8_1
                try clear hfz8_2
                try clear hfz8_3
                try clear hfz8_4
                try clear hfz9_0
                try clear hfz9_1
                try clear hfz9_2
                try clear hfz9_3
                try clear hfz9_4
                try clear hx35103_0
                try clear hx35103_1
                try clear hx35111_0
                try clear hx35111_1
                try clear p2
                try clear p3
                try clear p35
                try clear p35103
                try clear p35111
                try clear p6
                try clear q3
                try clear q35
                try clear q35103
                try clear q35111
                try clear q36
                obtain ⟨x70_3, rfl, HA, HK3, BK35101, HB⟩ := hrel
                cases gk with
                | zero => exact absurd HA.out (by simp [virgateref15_Right.l2])
                | succ k3 =>
                  have H := HA.out
                  clear HA
                  simp only [virgateref15_Right.l2] at H
                  by_cases c54 : x70_3 < (l0_2.length : Int)
                  · rw [if_pos c54] at H
                    have c54b0 : decide (x70_3 < (l0_2.length : Int)) = true := decide_eq_true c54
                    clear c54
                    by_cases c55 : 0 ≤ x70_3
                    · rw [if_pos c55] at H
                      have c55b0 : decide (0 ≤ x70_3) = true := decide_eq_true c55
                      clear c55
                      by_cases c56 : x70_3 < (l0_2.length : Int)
                      · rw [if_pos c56] at H
                        have c56b0 : decide (x70_3 < (l0_2.length : Int)) = true := decide_eq_true c56
                        clear c56
                        have HC57 := Aside0.mk H
                        clear H
                        have p35113 : 0 ≤ (x70_3 : Int) := of_decide_eq_true (by first | (with_reducible assumption) | assumption)
                        have q35113 : x70_3 < (l0_2.length : Int) := of_decide_eq_true (by first | (with_reducible assumption) | assumption)
                        obtain ⟨ad35113, e35113, hx35113_0⟩ := Kd.at_int HR0_2.out x70_3 p35113 q35113
                        cases e35113
                        replace hx35113_0 := (HB.out.cell (World.block_lt_of_cell? w _ hx35113_0)).trans hx35113_0
                        replace p35113 := eq_true p35113
                        replace q35113 := eq_true q35113
                        go_upto_region 18 with (fail)
                        go_cut [83] (fun v83 wc => ∃ (kq : Nat) (x83_56 : Bool), v83 = .bool x83_56 ∧ Aside0 (virgateref15_Right.j5 kq x70_3 (rd l0_2 x70_3) l0_2 (l0_2.length : Int) x70_3 x83_56 a0_0 a0_1 l0_2 l0_3 l0_4 = some r) ∧ Aside0 (kq ≤ k3) ∧ Aside0 (wc.heap[gb35101]? = some (.cells #[.int .u32 a0_0, .string a0_1, (.slice (some ad35113) l0_2.length c0_2), (.slice A0_3 l0_3.length c0_3), (.slice A0_4 l0_4.length c0_4)] 62 (0, 0))) ∧ Aside0 (Below w.heap.size w wc))
                        case first =>
                          have H := HC57.out
                          clear HC57
                          by_cases c58 : (rd l0_2 x70_3) < 0
                          · rw [if_pos c58] at H
                            have c58b0 : decide ((rd l0_2 x70_3) < 0) = true := decide_eq_true c58
                            clear c58
                            (first | rw [c58b0] | (simp only [i64_w, i32_w]; rw [c58b0]) | skip)
                            have H' := Aside0.mk H
                            clear H
                            go_wp2
                            go_meet
                            case rel => exact ⟨_, (true), (by first | rfl | (simp; done) | (simp [*]; done)), H', ⟨by have := HJ1.out; have := HK2.out; have := HK3.out; first | omega | exact Nat.le_refl _⟩, ⟨by (with_reducible repeat (first | refine blk_drewN ?_ _ | refine blk_drew ?_ | refine blk_alloc ?_ _)); exact BK35101.out⟩, ⟨by repeat (first | (with_reducible first | exact HB.out | apply below_alloc | apply pw_below_drewN | apply below_drew1 | refine below_set ?_ GE35101.out) | exact HB.out)⟩⟩
                          · rw [if_neg c58] at H
                            have c58b0 : decide ((rd l0_2 x70_3) < 0) = false := decide_eq_false c58
                            clear c58
                            (first | rw [c58b0] | (simp only [i64_w, i32_w]; rw [c58b0]) | skip)
                            have H' := Aside0.mk H
                            clear H
                            have hcz59_0 : wr.cell? ⟨gb35101, 0, none⟩ = some (.int .u32 a0_0) := (blk_cell BK35101.out 0).trans rfl
                            have hcz59_1 : wr.cell? ⟨gb35101, 1, none⟩ = some (.string a0_1) := (blk_cell BK35101.out 1).trans rfl
                            have hcz59_2 : wr.cell? ⟨gb35101, 2, none⟩ = some (.slice (some ad35113) l0_2.length c0_2) := (blk_cell BK35101.out 2).trans rfl
                            have hcz59_3 : wr.cell? ⟨gb35101, 3, none⟩ = some (.slice A0_3 l0_3.length c0_3) := (blk_cell BK35101.out 3).trans rfl
                            have hcz59_4 : wr.cell? ⟨gb35101, 4, none⟩ = some (.slice A0_4 l0_4.length c0_4) := (blk_cell BK35101.out 4).trans rfl
                            have hfz59_0 := blk_frozen BK35101.out 0
                            have hfz59_1 := blk_frozen BK35101.out 1
                            have hfz59_2 := blk_frozen BK35101.out 2
                            have hfz59_3 := blk_frozen BK35101.out 3
                            have hfz59_4 := blk_frozen BK35101.out 4
                            go_wp2
                            go_meet
                            case rel => exact ⟨_, (decide ((rd l0_2 x70_3) > (l0_4.length : Int))), (by first | rfl | (simp; done) | (simp [*]; done)), H', ⟨by have := HJ1.out; have := HK2.out; have := HK3.out; first | omega | exact Nat.le_refl _⟩, ⟨by (with_reducible repeat (first | refine blk_drewN ?_ _ | refine blk_drew ?_ | refine blk_alloc ?_ _)); exact BK35101.out⟩, ⟨by repeat (first | (with_reducible first | exact HB.out | apply below_alloc | apply pw_below_drewN | apply below_drew1 | refine below_set ?_ GE35101.out) | exact HB.out)⟩⟩
                        case rest =>
                          clear HC57
                          try clear c1
                          try clear c2
                          try clear p2
                          try clear c3
                          try clear p3
                          try clear q3
                          try clear hx3
                          try clear c4
                          try clear c4b0
                          try clear c4b1
                          try clear c5
                          try clear c6
                          try clear p6
                          try clear c7
                          try clear c7b0
                          try clear c7b1
                          try clear c12
                          try clear c14
                          try clear c14b0
                          try clear c15
                          try clear c15b0
                          try clear c16
                          try clear c16b0
                          try clear c19
                          try clear c22
                          try clear c24
                          try clear c28
                          try clear c31
                          try clear c32
                          try clear c32b0
                          try clear c32b1
                          try clear c33
                          try clear c33b0
                          try clear c33b1
                          try clear c34
                          try clear c35
                          try clear p35
                          try clear q35
                          try clear hx35
                          try clear q36
                          try clear c37
                          try clear c37b0
                          try clear c38
                          try clear c38b0
                          try clear c39
                          try clear c39b0
                          try clear c40
                          try clear c40b0
                          try clear c40b1
                          try clear c40b2
                          try clear c42
                          try clear c43
                          try clear c45
                          try clear c48
                          try clear c49
                          try clear c51
                          try clear c54
                          try clear c54b0
                          try clear c55
                          try clear c55b0
                          try clear c56
                          try clear c56b0
                          try clear c58
                          try clear c58b0
                          try clear hcz10_0
                          try clear hcz10_1
                          try clear hcz10_2
                          try clear hcz10_3
                          try clear hcz10_4
                          try clear hcz11_0
                          try clear hcz11_1
                          try clear hcz11_2
                          try clear hcz11_3
                          try clear hcz11_4
                          try clear hcz13_0
                          try clear hcz13_1
                          try clear hcz13_2
                          try clear hcz13_3
                          try clear hcz13_4
                          try clear hcz20_0
                          try clear hcz20_1
                          try clear hcz25_0
                          try clear hcz25_1
                          try clear hcz27_0
                          try clear hcz27_1
                          try clear hcz27_2
                          try clear hcz27_3
                          try clear hcz27_4
                          try clear hcz29_0
                          try clear hcz29_1
                          try clear hcz35_0
                          try clear hcz35_1
                          try clear hcz35_2
                          try clear hcz35_3
                          try clear hcz35_4
                          try clear hcz44_0
                          try clear hcz44_1
                          try clear hcz46_0
                          try clear hcz46_1
                          try clear hcz50_0
                          try clear hcz50_1
                          try clear hcz52_0
                          try clear hcz52_1
                          try clear hcz53_0
                          try clear hcz53_1
                          try clear hcz53_2
                          try clear hcz53_3
                          try clear hcz53_4
                          try clear hcz59_0
                          try clear hcz59_1
                          try clear hcz59_2
                          try clear hcz59_3
                          try clear hcz59_4
                          try clear hcz8_0
                          try clear hcz8_1
                          try clear hcz8_2
                          try clear hcz8_3
                          try clear hcz8_4
                          try clear hcz9_0
                          try clear hcz9_1
                          try clear hcz9_2
                          try clear hcz9_3
                          try clear hcz9_4
                          try clear hfz10_0
                          try clear hfz10_1
                          try clear hfz10_2
                          try clear hfz10_3
                          try clear hfz10_4
                          try clear hfz11_0
                          try clear hfz11_1
                          try clear hfz11_2
                          try clear hfz11_3
                          try clear hfz11_4
                          try clear hfz13_0
                          try clear hfz13_1
                          try clear hfz13_2
                          try clear hfz13_3
                          try clear hfz13_4
                          try clear hfz20_0
                          try clear hfz20_1
                          try clear hfz25_0
                          try clear hfz25_1
                          try clear hfz27_0
                          try clear hfz27_1
                          try clear hfz27_2
                          try clear hfz27_3
                          try clear hfz27_4
                          try clear hfz29_0
                          try clear hfz29_1
                          try clear hfz35_0
                          try clear hfz35_1
                          try clear hfz35_2
                          try clear hfz35_3
                          try clear hfz35_4
                          try clear hfz44_0
                          try clear hfz44_1
                          try clear hfz46_0
                          try clear hfz46_1
                          try clear hfz50_0
                          try clear hfz50_1
                          try clear hfz52_0
                          try clear hfz52_1
                          try clear hfz53_0
                          try clear hfz53_1
                          try clear hfz53_2
                          try clear hfz53_3
                          try clear hfz53_4
                          try clear hfz59_0
                          try clear hfz59_1
                          try clear hfz59_2
                          try clear hfz59_3
                          try clear hfz59_4
                          try clear hfz8_0
                          try clear hfz8_1
                          try clear hfz8_2
                          try clear hfz8_3
                          try clear hfz8_4
                          try clear hfz9_0
                          try clear hfz9_1
                          try clear hfz9_2
                          try clear hfz9_3
                          try clear hfz9_4
                          try clear hx35103_0
                          try clear hx35103_1
                          try clear hx35111_0
                          try clear hx35111_1
                          try clear hx35113_0
                          try clear p2
                          try clear p3
                          try clear p35
                          try clear p35103
                          try clear p35111
                          try clear p35113
                          try clear p6
                          try clear q3
                          try clear q35
                          try clear q35103
                          try clear q35111
                          try clear q35113
                          try clear q36
                          obtain ⟨kq, x83_56, rfl, HA, HJ56, BK35101, HB⟩ := hcut
                          cases kq with
                          | zero => exact absurd HA.out (by simp [virgateref15_Right.j5])
                          | succ kj56 =>
                            have H := HA.out
                            clear HA
                            simp only [virgateref15_Right.j5] at H
                            by_cases c60 : x83_56 = true
                            · subst c60
                              have H1 : (some false) = some r := by rw [if_pos rfl] at H; exact H
                              clear H
                              have H := H1
                              clear H1
                              obtain rfl := Option.some.inj H
                              go_wp2
                              go_ret
                              exact ⟨by first | rfl | (simp [errW_none, errW_some] <;> rfl) | (simp [*, errW_none, errW_some] <;> rfl), by repeat (first | (with_reducible first | exact HB.out | apply below_alloc | apply pw_below_drewN | apply below_drew1 | refine below_set ?_ GE35101.out) | exact HB.out)⟩
                            · replace c60 := Bool.eq_false_iff.mpr c60
                              subst c60
                              have H1 : (if (rd l0_2 x70_3) = 0 then ((virgateref15_count.f kj56 l0_3 x70_3).bind fun t35114 => (if t35114 = 1 then (virgateref15_Right.l2 kj56 l0_2 (l0_2.length : Int) (wrap64 (x70_3 + 1)) a0_0 a0_1 l0_2 l0_3 l0_4) else (some false))) else ((virgateref15_count.f kj56 l0_3 x70_3).bind fun t35115 => (if t35115 = 0 then (virgateref15_Right.l2 kj56 l0_2 (l0_2.length : Int) (wrap64 (x70_3 + 1)) a0_0 a0_1 l0_2 l0_3 l0_4) else (some false)))) = some r := by rw [if_neg (show ¬ (false = true) by decide)] at H; exact H
                              clear H
                              have H := H1
                              clear H1
                              by_cases c61 : (rd l0_2 x70_3) = 0
                              · rw [if_pos c61] at H
                                have c61b0 : ((rd l0_2 x70_3) == 0) = true := beq_iff_eq.mpr c61
                                have c61b1 : ((rd l0_2 x70_3) != 0) = false := bne_eq_false_iff_eq.mpr c61
                                clear c61
                                replace H := Option.bind_eq_some_iff.mp H
                                obtain ⟨t35114, A620, H⟩ := H
                                replace H : (if t35114 = 1 then (virgateref15_Right.l2 kj56 l0_2 (l0_2.length : Int) (wrap64 (x70_3 + 1)) a0_0 a0_1 l0_2 l0_3 l0_4) else (some false)) = some r := H
                                have A62 := Aside0.mk A620
                                clear A620
                                by_cases c63 : t35114 = 1
                                · rw [if_pos c63] at H
                                  have c63b0 : (t35114 == 1) = true := beq_iff_eq.mpr c63
                                  have c63b1 : (t35114 != 1) = false := bne_eq_false_iff_eq.mpr c63
                                  clear c63
                                  have H' := Aside0.mk H
                                  clear H
                                  have hcz64_0 : wc.cell? ⟨gb35101, 0, none⟩ = some (.int .u32 a0_0) := (blk_cell BK35101.out 0).trans rfl
                                  have hcz64_1 : wc.cell? ⟨gb35101, 1, none⟩ = some (.string a0_1) := (blk_cell BK35101.out 1).trans rfl
                                  have hcz64_2 : wc.cell? ⟨gb35101, 2, none⟩ = some (.slice (some ad35113) l0_2.length c0_2) := (blk_cell BK35101.out 2).trans rfl
                                  have hcz64_3 : wc.cell? ⟨gb35101, 3, none⟩ = some (.slice A0_3 l0_3.length c0_3) := (blk_cell BK35101.out 3).trans rfl
                                  have hcz64_4 : wc.cell? ⟨gb35101, 4, none⟩ = some (.slice A0_4 l0_4.length c0_4) := (blk_cell BK35101.out 4).trans rfl
                                  have hfz64_0 := blk_frozen BK35101.out 0
                                  have hfz64_1 := blk_frozen BK35101.out 1
                                  have hfz64_2 := blk_frozen BK35101.out 2
                                  have hfz64_3 := blk_frozen BK35101.out 3
                                  have hfz64_4 := blk_frozen BK35101.out 4
                                  go_wp2_with (first | ((with_reducible refine gate_callee (f := 68) rfl ?_); refine goesL_ (some 89) rfl rfl Try.func68 (by kernel_rfl) rfl #[.slice A0_3 l0_3.length c0_3, .int .i64 x70_3] rfl (by (try simp only [List.map_toArray, List.map_cons, List.map_nil]); first | done | rfl | (simp only [List.length_drop, List.length_take]; rfl)) ?_; (with_reducible refine (virgateref15_count.calls kj56 _ _ l0_3 x70_3 t35114 _ ?side1 ?side2 A62.out).mono ?_); (case side1 => repeat (first | exact (Kd.C_below HR0_3.out HB.out) | (with_reducible refine Kd.C_alloc ?_ _) | (with_reducible refine Kd.C_drewN ?_ _) | (with_reducible refine Kd.C_drew ?_))); (case side2 => exact HC0_3.out); rintro e w' ⟨rfl, ⟨nd, rfl⟩⟩; refine ⟨_, rfl, ?_⟩))
                                  go_roundg kj56
                                  case measure => have := HJ1.out; have := HK2.out; have := HK3.out; have := HJ56.out; omega
                                  case rel => exact ⟨(wrap64 (x70_3 + 1)), (by first | rfl | (simp; done) | (simp [*]; done)), H', ⟨by have := HJ1.out; have := HK2.out; have := HK3.out; have := HJ56.out; omega⟩, ⟨by (with_reducible repeat (first | refine blk_drewN ?_ _ | refine blk_drew ?_ | refine blk_alloc ?_ _)); exact BK35101.out⟩, ⟨by repeat (first | (with_reducible first | exact HB.out | apply below_alloc | apply pw_below_drewN | apply below_drew1 | refine below_set ?_ GE35101.out) | exact HB.out)⟩⟩
                                · rw [if_neg c63] at H
                                  have c63b0 : (t35114 == 1) = false := beq_eq_false_iff_ne.mpr c63
                                  have c63b1 : (t35114 != 1) = true := bne_iff_ne.mpr c63
                                  obtain rfl := Option.some.inj H
                                  have hcz65_0 : wc.cell? ⟨gb35101, 0, none⟩ = some (.int .u32 a0_0) := (blk_cell BK35101.out 0).trans rfl
                                  have hcz65_1 : wc.cell? ⟨gb35101, 1, none⟩ = some (.string a0_1) := (blk_cell BK35101.out 1).trans rfl
                                  have hcz65_2 : wc.cell? ⟨gb35101, 2, none⟩ = some (.slice (some ad35113) l0_2.length c0_2) := (blk_cell BK35101.out 2).trans rfl
                                  have hcz65_3 : wc.cell? ⟨gb35101, 3, none⟩ = some (.slice A0_3 l0_3.length c0_3) := (blk_cell BK35101.out 3).trans rfl
                                  have hcz65_4 : wc.cell? ⟨gb35101, 4, none⟩ = some (.slice A0_4 l0_4.length c0_4) := (blk_cell BK35101.out 4).trans rfl
                                  have hfz65_0 := blk_frozen BK35101.out 0
                                  have hfz65_1 := blk_frozen BK35101.out 1
                                  have hfz65_2 := blk_frozen BK35101.out 2
                                  have hfz65_3 := blk_frozen BK35101.out 3
                                  have hfz65_4 := blk_frozen BK35101.out 4
                                  go_wp2_with (first | ((with_reducible refine gate_callee (f := 68) rfl ?_); refine goesL_ (some 89) rfl rfl Try.func68 (by kernel_rfl) rfl #[.slice A0_3 l0_3.length c0_3, .int .i64 x70_3] rfl (by (try simp only [List.map_toArray, List.map_cons, List.map_nil]); first | done | rfl | (simp only [List.length_drop, List.length_take]; rfl)) ?_; (with_reducible refine (virgateref15_count.calls kj56 _ _ l0_3 x70_3 t35114 _ ?side1 ?side2 A62.out).mono ?_); (case side1 => repeat (first | exact (Kd.C_below HR0_3.out HB.out) | (with_reducible refine Kd.C_alloc ?_ _) | (with_reducible refine Kd.C_drewN ?_ _) | (with_reducible refine Kd.C_drew ?_))); (case side2 => exact HC0_3.out); rintro e w' ⟨rfl, ⟨nd, rfl⟩⟩; refine ⟨_, rfl, ?_⟩))
                                  go_ret
                                  exact ⟨by first | rfl | (simp [errW_none, errW_some] <;> rfl) | (simp [*, errW_none, errW_some] <;> rfl), by repeat (first | (with_reducible first | exact HB.out | apply below_alloc | apply pw_below_drewN | apply below_drew1 | refine below_set ?_ GE35101.out) | exact HB.out)⟩
                              · rw [if_neg c61] at H
                                have c61b0 : ((rd l0_2 x70_3) == 0) = false := beq_eq_false_iff_ne.mpr c61
                                have c61b1 : ((rd l0_2 x70_3) != 0) = true := bne_iff_ne.mpr c61
                                replace H := Option.bind_eq_some_iff.mp H
                                obtain ⟨t35115, A660, H⟩ := H
                                replace H : (if t35115 = 0 then (virgateref15_Right.l2 kj56 l0_2 (l0_2.length : Int) (wrap64 (x70_3 + 1)) a0_0 a0_1 l0_2 l0_3 l0_4) else (some false)) = some r := H
                                have A66 := Aside0.mk A660
                                clear A660
                                by_cases c67 : t35115 = 0
                                · rw [if_pos c67] at H
                                  have c67b0 : (t35115 == 0) = true := beq_iff_eq.mpr c67
                                  have c67b1 : (t35115 != 0) = false := bne_eq_false_iff_eq.mpr c67
                                  clear c67
                                  have H' := Aside0.mk H
                                  clear H
                                  have hcz68_0 : wc.cell? ⟨gb35101, 0, none⟩ = some (.int .u32 a0_0) := (blk_cell BK35101.out 0).trans rfl
                                  have hcz68_1 : wc.cell? ⟨gb35101, 1, none⟩ = some (.string a0_1) := (blk_cell BK35101.out 1).trans rfl
                                  have hcz68_2 : wc.cell? ⟨gb35101, 2, none⟩ = some (.slice (some ad35113) l0_2.length c0_2) := (blk_cell BK35101.out 2).trans rfl
                                  have hcz68_3 : wc.cell? ⟨gb35101, 3, none⟩ = some (.slice A0_3 l0_3.length c0_3) := (blk_cell BK35101.out 3).trans rfl
                                  have hcz68_4 : wc.cell? ⟨gb35101, 4, none⟩ = some (.slice A0_4 l0_4.length c0_4) := (blk_cell BK35101.out 4).trans rfl
                                  have hfz68_0 := blk_frozen BK35101.out 0
                                  have hfz68_1 := blk_frozen BK35101.out 1
                                  have hfz68_2 := blk_frozen BK35101.out 2
                                  have hfz68_3 := blk_frozen BK35101.out 3
                                  have hfz68_4 := blk_frozen BK35101.out 4
                                  go_wp2_with (first | ((with_reducible refine gate_callee (f := 68) rfl ?_); refine goesL_ (some 89) rfl rfl Try.func68 (by kernel_rfl) rfl #[.slice A0_3 l0_3.length c0_3, .int .i64 x70_3] rfl (by (try simp only [List.map_toArray, List.map_cons, List.map_nil]); first | done | rfl | (simp only [List.length_drop, List.length_take]; rfl)) ?_; (with_reducible refine (virgateref15_count.calls kj56 _ _ l0_3 x70_3 t35115 _ ?side1 ?side2 A66.out).mono ?_); (case side1 => repeat (first | exact (Kd.C_below HR0_3.out HB.out) | (with_reducible refine Kd.C_alloc ?_ _) | (with_reducible refine Kd.C_drewN ?_ _) | (with_reducible refine Kd.C_drew ?_))); (case side2 => exact HC0_3.out); rintro e w' ⟨rfl, ⟨nd, rfl⟩⟩; refine ⟨_, rfl, ?_⟩))
                                  go_roundg kj56
                                  case measure => have := HJ1.out; have := HK2.out; have := HK3.out; have := HJ56.out; omega
                                  case rel => exact ⟨(wrap64 (x70_3 + 1)), (by first | rfl | (simp; done) | (simp [*]; done)), H', ⟨by have := HJ1.out; have := HK2.out; have := HK3.out; have := HJ56.out; omega⟩, ⟨by (with_reducible repeat (first | refine blk_drewN ?_ _ | refine blk_drew ?_ | refine blk_alloc ?_ _)); exact BK35101.out⟩, ⟨by repeat (first | (with_reducible first | exact HB.out | apply below_alloc | apply pw_below_drewN | apply below_drew1 | refine below_set ?_ GE35101.out) | exact HB.out)⟩⟩
                                · rw [if_neg c67] at H
                                  have c67b0 : (t35115 == 0) = false := beq_eq_false_iff_ne.mpr c67
                                  have c67b1 : (t35115 != 0) = true := bne_iff_ne.mpr c67
                                  obtain rfl := Option.some.inj H
                                  have hcz69_0 : wc.cell? ⟨gb35101, 0, none⟩ = some (.int .u32 a0_0) := (blk_cell BK35101.out 0).trans rfl
                                  have hcz69_1 : wc.cell? ⟨gb35101, 1, none⟩ = some (.string a0_1) := (blk_cell BK35101.out 1).trans rfl
                                  have hcz69_2 : wc.cell? ⟨gb35101, 2, none⟩ = some (.slice (some ad35113) l0_2.length c0_2) := (blk_cell BK35101.out 2).trans rfl
                                  have hcz69_3 : wc.cell? ⟨gb35101, 3, none⟩ = some (.slice A0_3 l0_3.length c0_3) := (blk_cell BK35101.out 3).trans rfl
                                  have hcz69_4 : wc.cell? ⟨gb35101, 4, none⟩ = some (.slice A0_4 l0_4.length c0_4) := (blk_cell BK35101.out 4).trans rfl
                                  have hfz69_0 := blk_frozen BK35101.out 0
                                  have hfz69_1 := blk_frozen BK35101.out 1
                                  have hfz69_2 := blk_frozen BK35101.out 2
                                  have hfz69_3 := blk_frozen BK35101.out 3
                                  have hfz69_4 := blk_frozen BK35101.out 4
                                  go_wp2_with (first | ((with_reducible refine gate_callee (f := 68) rfl ?_); refine goesL_ (some 89) rfl rfl Try.func68 (by kernel_rfl) rfl #[.slice A0_3 l0_3.length c0_3, .int .i64 x70_3] rfl (by (try simp only [List.map_toArray, List.map_cons, List.map_nil]); first | done | rfl | (simp only [List.length_drop, List.length_take]; rfl)) ?_; (with_reducible refine (virgateref15_count.calls kj56 _ _ l0_3 x70_3 t35115 _ ?side1 ?side2 A66.out).mono ?_); (case side1 => repeat (first | exact (Kd.C_below HR0_3.out HB.out) | (with_reducible refine Kd.C_alloc ?_ _) | (with_reducible refine Kd.C_drewN ?_ _) | (with_reducible refine Kd.C_drew ?_))); (case side2 => exact HC0_3.out); rintro e w' ⟨rfl, ⟨nd, rfl⟩⟩; refine ⟨_, rfl, ?_⟩))
                                  go_ret
                                  exact ⟨by first | rfl | (simp [errW_none, errW_some] <;> rfl) | (simp [*, errW_none, errW_some] <;> rfl), by repeat (first | (with_reducible first | exact HB.out | apply below_alloc | apply pw_below_drewN | apply below_drew1 | refine below_set ?_ GE35101.out) | exact HB.out)⟩
                      · rw [if_neg c56] at H
                        exact absurd H (by simp)
                    · rw [if_neg c55] at H
                      exact absurd H (by simp)
                  · rw [if_neg c54] at H
                    have c54b0 : decide (x70_3 < (l0_2.length : Int)) = false := decide_eq_false c54
                    clear c54
                    have H' := Aside0.mk H
                    clear H
                    have hcz70_0 : wr.cell? ⟨gb35101, 0, none⟩ = some (.int .u32 a0_0) := (blk_cell BK35101.out 0).trans rfl
                    have hcz70_1 : wr.cell? ⟨gb35101, 1, none⟩ = some (.string a0_1) := (blk_cell BK35101.out 1).trans rfl
                    have hcz70_2 : wr.cell? ⟨gb35101, 2, none⟩ = some (.slice A0_2 l0_2.length c0_2) := (blk_cell BK35101.out 2).trans rfl
                    have hcz70_3 : wr.cell? ⟨gb35101, 3, none⟩ = some (.slice A0_3 l0_3.length c0_3) := (blk_cell BK35101.out 3).trans rfl
                    have hcz70_4 : wr.cell? ⟨gb35101, 4, none⟩ = some (.slice A0_4 l0_4.length c0_4) := (blk_cell BK35101.out 4).trans rfl
                    have hfz70_0 := blk_frozen BK35101.out 0
                    have hfz70_1 := blk_frozen BK35101.out 1
                    have hfz70_2 := blk_frozen BK35101.out 2
                    have hfz70_3 := blk_frozen BK35101.out 3
                    have hfz70_4 := blk_frozen BK35101.out 4
                    go_wp2
                    go_loopg [96] k3 (fun kq v96 w' => ∃ (x96_4 : Int), v96 = .int .i64 x96_4 ∧ Aside0 (virgateref15_Right.l3 kq l0_3 (l0_3.length : Int) x96_4 = some r) ∧ Aside0 (kq ≤ k3) ∧ Aside0 (w'.heap[gb35101]? = some (.cells #[.int .u32 a0_0, .string a0_1, (.slice A0_2 l0_2.length c0_2), (.slice A0_3 l0_3.length c0_3), (.slice A0_4 l0_4.length c0_4)] 62 (0, 0))) ∧ Aside0 (Below w.heap.size w w'))
                    case atStart => exact ⟨(0), (by first | rfl | (simp; done) | (simp [*]; done)), H', ⟨Nat.le_refl _⟩, ⟨by (with_reducible repeat (first | refine blk_drewN ?_ _ | refine blk_drew ?_ | refine blk_alloc ?_ _)); exact BK35101.out⟩, ⟨by repeat (first | (with_reducible first | exact HB.out | apply below_alloc | apply pw_below_drewN | apply below_drew1 | refine below_set ?_ GE35101.out) | exact HB.out)⟩⟩
                    case round =>
                      clear H'
                      try clear c1
                      try clear c2
                      try clear p2
                      try clear c3
                      try clear p3
                      try clear q3
                      try clear hx3
                      try clear c4
                      try clear c4b0
                      try clear c4b1
                      try clear c5
                      try clear c6
                      try clear p6
                      try clear c7
                      try clear c7b0
                      try clear c7b1
                      try clear c12
                      try clear c14
                      try clear c14b0
                      try clear c15
                      try clear c15b0
                      try clear c16
                      try clear c16b0
                      try clear c19
                      try clear c22
                      try clear c24
                      try clear c28
                      try clear c31
                      try clear c32
                      try clear c32b0
                      try clear c32b1
                      try clear c33
                      try clear c33b0
                      try clear c33b1
                      try clear c34
                      try clear c35
                      try clear p35
                      try clear q35
                      try clear hx35
                      try clear q36
                      try clear c37
                      try clear c37b0
                      try clear c38
                      try clear c38b0
                      try clear c39
                      try clear c39b0
                      try clear c40
                      try clear c40b0
                      try clear c40b1
                      try clear c40b2
                      try clear c42
                      try clear c43
                      try clear c45
                      try clear c48
                      try clear c49
                      try clear c51
                      try clear c54
                      try clear c54b0
                      try clear c55
                      try clear c55b0
                      try clear c56
                      try clear c56b0
                      try clear c58
                      try clear c58b0
                      try clear c60
                      try clear c61
                      try clear c61b0
                      try clear c61b1
                      try clear c63
                      try clear c63b0
                      try clear c63b1
                      try clear p64
                      try clear c67
                      try clear c67b0
                      try clear c67b1
                      try clear c68
                      try clear hcz10_0
                      try clear hcz10_1
                      try clear hcz10_2
                      try clear hcz10_3
                      try clear hcz10_4
                      try clear hcz11_0
                      try clear hcz11_1
                      try clear hcz11_2
                      try clear hcz11_3
                      try clear hcz11_4
                      try clear hcz13_0
                      try clear hcz13_1
                      try clear hcz13_2
                      try clear hcz13_3
                      try clear hcz13_4
                      try clear hcz20_0
                      try clear hcz20_1
                      try clear hcz25_0
                      try clear hcz25_1
                      try clear hcz27_0
                      try clear hcz27_1
                      try clear hcz27_2
                      try clear hcz27_3
                      try clear hcz27_4
                      try clear hcz29_0
                      try clear hcz29_1
                      try clear hcz35_0
                      try clear hcz35_1
                      try clear hcz35_2
                      try clear hcz35_3
                      try clear hcz35_4
                      try clear hcz44_0
                      try clear hcz44_1
                      try clear hcz46_0
                      try clear hcz46_1
                      try clear hcz50_0
                      try clear hcz50_1
                      try clear hcz52_0
                      try clear hcz52_1
                      try clear hcz53_0
                      try clear hcz53_1
                      try clear hcz53_2
                      try clear hcz53_3
                      try clear hcz53_4
                      try clear hcz59_0
                      try clear hcz59_1
                      try clear hcz59_2
                      try clear hcz59_3
                      try clear hcz59_4
                      try clear hcz64_0
                      try clear hcz64_1
                      try clear hcz64_2
                      try clear hcz64_3
                      try clear hcz64_4
                      try clear hcz65_0
                      try clear hcz65_1
                      try clear hcz65_2
                      try clear hcz65_3
                      try clear hcz65_4
                      try clear hcz68_0
                      try clear hcz68_1
                      try clear hcz68_2
                      try clear hcz68_3
                      try clear hcz68_4
                      try clear hcz69_0
                      try clear hcz69_1
                      try clear hcz69_2
                      try clear hcz69_3
                      try clear hcz69_4
                      try clear hcz70_0
                      try clear hcz70_1
                      try clear hcz70_2
                      try clear hcz70_3
                      try clear hcz70_4
                      try clear hcz8_0
                      try clear hcz8_1
                      try clear hcz8_2
                      try clear hcz8_3
                      try clear hcz8_4
                      try clear hcz9_0
                      try clear hcz9_1
                      try clear hcz9_2
                      try clear hcz9_3
                      try clear hcz9_4
                      try clear hfz10_0
                      try clear hfz10_1
                      try clear hfz10_2
                      try clear hfz10_3
                      try clear hfz10_4
                      try clear hfz11_0
                      try clear hfz11_1
                      try clear hfz11_2
                      try clear hfz11_3
                      try clear hfz11_4
                      try clear hfz13_0
                      try clear hfz13_1
                      try clear hfz13_2
                      try clear hfz13_3
                      try clear hfz13_4
                      try clear hfz20_0
                      try clear hfz20_1
                      try clear hfz25_0
                      try clear hfz25_1
                      try clear hfz27_0
                      try clear hfz27_1
                      try clear hfz27_2
                      try clear hfz27_3
                      try clear hfz27_4
                      try clear hfz29_0
                      try clear hfz29_1
                      try clear hfz35_0
                      try clear hfz35_1
                      try clear hfz35_2
                      try clear hfz35_3
                      try clear hfz35_4
                      try clear hfz44_0
                      try clear hfz44_1
                      try clear hfz46_0
                      try clear hfz46_1
                      try clear hfz50_0
                      try clear hfz50_1
                      try clear hfz52_0
                      try clear hfz52_1
                      try clear hfz53_0
                      try clear hfz53_1
                      try clear hfz53_2
                      try clear hfz53_3
                      try clear hfz53_4
                      try clear hfz59_0
                      try clear hfz59_1
                      try clear hfz59_2
                      try clear hfz59_3
                      try clear hfz59_4
                      try clear hfz64_0
                      try clear hfz64_1
                      try clear hfz64_2
                      try clear hfz64_3
                      try clear hfz64_4
                      try clear hfz65_0
                      try clear hfz65_1
                      try clear hfz65_2
                      try clear hfz65_3
                      try clear hfz65_4
                      try clear hfz68_0
                      try clear hfz68_1
                      try clear hfz68_2
                      try clear hfz68_3
                      try clear hfz68_4
                      try clear hfz69_0
                      try clear hfz69_1
                      try clear hfz69_2
                      try clear hfz69_3
                      try clear hfz69_4
                      try clear hfz70_0
                      try clear hfz70_1
                      try clear hfz70_2
                      try clear hfz70_3
                      try clear hfz70_4
                      try clear hfz8_0
                      try clear hfz8_1
                      try clear hfz8_2
                      try clear hfz8_3
                      try clear hfz8_4
                      try clear hfz9_0
                      try clear hfz9_1
                      try clear hfz9_2
                      try clear hfz9_3
                      try clear hfz9_4
                      try clear hx35103_0
                      try clear hx35103_1
                      try clear hx35111_0
                      try clear hx35111_1
                      try clear hx35113_0
                      try clear p2
                      try clear p3
                      try clear p35
                      try clear p35103
                      try clear p35111
                      try clear p35113
                      try clear p6
                      try clear q3
                      try clear q35
                      try clear q35103
                      try clear q35111
                      try clear q35113
                      try clear q36
                      obtain ⟨x96_4, rfl, HA, HK4, BK35101, HB⟩ := hrel
                      cases gk with
                      | zero => exact absurd HA.out (by simp [virgateref15_Right.l3])
                      | succ k4 =>
                        have H := HA.out
                        clear HA
                        simp only [virgateref15_Right.l3] at H
                        by_cases c71 : x96_4 < (l0_3.length : Int)
                        · rw [if_pos c71] at H
                          have c71b0 : decide (x96_4 < (l0_3.length : Int)) = true := decide_eq_true c71
                          clear c71
                          by_cases c72 : 0 ≤ x96_4
                          · rw [if_pos c72] at H
                            have c72b0 : decide (0 ≤ x96_4) = true := decide_eq_true c72
                            clear c72
                            by_cases c73 : x96_4 < (l0_3.length : Int)
                            · rw [if_pos c73] at H
                              have c73b0 : decide (x96_4 < (l0_3.length : Int)) = true := decide_eq_true c73
                              clear c73
                              by_cases c74 : (rd l0_3 x96_4) < 0
                              · rw [if_pos c74] at H
                                have c74b0 : decide ((rd l0_3 x96_4) < 0) = true := decide_eq_true c74
                                clear c74
                                obtain rfl := Option.some.inj H
                                have p35116 : 0 ≤ (x96_4 : Int) := of_decide_eq_true (by first | (with_reducible assumption) | assumption)
                                have q35116 : x96_4 < (l0_3.length : Int) := of_decide_eq_true (by first | (with_reducible assumption) | assumption)
                                obtain ⟨ad35116, e35116, hx35116_0⟩ := Kd.at_int HR0_3.out x96_4 p35116 q35116
                                cases e35116
                                replace hx35116_0 := (HB.out.cell (World.block_lt_of_cell? w _ hx35116_0)).trans hx35116_0
                                replace p35116 := eq_true p35116
                                replace q35116 := eq_true q35116
                                go_wp2
                                go_ret
                                exact ⟨by first | rfl | (simp [errW_none, errW_some] <;> rfl) | (simp [*, errW_none, errW_some] <;> rfl), by repeat (first | (with_reducible first | exact HB.out | apply below_alloc | apply pw_below_drewN | apply below_drew1 | refine below_set ?_ GE35101.out) | exact HB.out)⟩
                              · rw [if_neg c74] at H
                                have c74b0 : decide ((rd l0_3 x96_4) < 0) = false := decide_eq_false c74
                                clear c74
                                by_cases c75 : (rd l0_3 x96_4) > 63
                                · rw [if_pos c75] at H
                                  have c75b0 : decide (63 < (rd l0_3 x96_4)) = true := decide_eq_true c75
                                  clear c75
                                  obtain rfl := Option.some.inj H
                                  have p35116 : 0 ≤ (x96_4 : Int) := of_decide_eq_true (by first | (with_reducible assumption) | assumption)
                                  have q35116 : x96_4 < (l0_3.length : Int) := of_decide_eq_true (by first | (with_reducible assumption) | assumption)
                                  obtain ⟨ad35116, e35116, hx35116_0⟩ := Kd.at_int HR0_3.out x96_4 p35116 q35116
                                  cases e35116
                                  replace hx35116_0 := (HB.out.cell (World.block_lt_of_cell? w _ hx35116_0)).trans hx35116_0
                                  replace p35116 := eq_true p35116
                                  replace q35116 := eq_true q35116
                                  go_wp2
                                  go_ret
                                  exact ⟨by first | rfl | (simp [errW_none, errW_some] <;> rfl) | (simp [*, errW_none, errW_some] <;> rfl), by repeat (first | (with_reducible first | exact HB.out | apply below_alloc | apply pw_below_drewN | apply below_drew1 | refine below_set ?_ GE35101.out) | exact HB.out)⟩
                                · rw [if_neg c75] at H
                                  have c75b0 : decide (63 < (rd l0_3 x96_4)) = false := decide_eq_false c75
                                  clear c75
                                  have H' := Aside0.mk H
                                  clear H
                                  have p35116 : 0 ≤ (x96_4 : Int) := of_decide_eq_true (by first | (with_reducible assumption) | assumption)
                                  have q35116 : x96_4 < (l0_3.length : Int) := of_decide_eq_true (by first | (with_reducible assumption) | assumption)
                                  obtain ⟨ad35116, e35116, hx35116_0⟩ := Kd.at_int HR0_3.out x96_4 p35116 q35116
                                  cases e35116
                                  replace hx35116_0 := (HB.out.cell (World.block_lt_of_cell? w _ hx35116_0)).trans hx35116_0
                                  replace p35116 := eq_true p35116
                                  replace q35116 := eq_true q35116
                                  go_wp2
                                  go_roundg k4
                                  case measure => have := HJ1.out; have := HK2.out; have := HK3.out; have := HK4.out; omega
                                  case rel => exact ⟨(wrap64 (x96_4 + 1)), (by first | rfl | (simp; done) | (simp [*]; done)), H', ⟨by have := HJ1.out; have := HK2.out; have := HK3.out; have := HK4.out; omega⟩, ⟨by (with_reducible repeat (first | refine blk_drewN ?_ _ | refine blk_drew ?_ | refine blk_alloc ?_ _)); exact BK35101.out⟩, ⟨by repeat (first | (with_reducible first | exact HB.out | apply below_alloc | apply pw_below_drewN | apply below_drew1 | refine below_set ?_ GE35101.out) | exact HB.out)⟩⟩
                            · rw [if_neg c73] at H
                              exact absurd H (by simp)
                          · rw [if_neg c72] at H
                            exact absurd H (by simp)
                        · rw [if_neg c71] at H
                          have c71b0 : decide (x96_4 < (l0_3.length : Int)) = false := decide_eq_false c71
                          clear c71
                          obtain rfl := Option.some.inj H
                          go_wp2
                          go_ret
                          exact ⟨by first | rfl | (simp [errW_none, errW_some] <;> rfl) | (simp [*, errW_none, errW_some] <;> rfl), by repeat (first | (with_reducible first | exact HB.out | apply below_alloc | apply pw_below_drewN | apply below_drew1 | refine below_set ?_ GE35101.out) | exact HB.out)⟩
end Go.Proofs.Ytemhalnhbgkbcaa.V
end

-- BImgRead
section
/- ImageRead: the walk, over two plain laws. -/
namespace Go.Proofs.Ytemhalnhbgkbcaa.V
open Go.RowKit Go.Proofs.YtemhalnhbgkbcaaW.PrintWords Go.Proofs.YtemhalnhbgkbcaaW.PrintLast Go.Proofs.YtemhalnhbgkbcaaW.PrintMore
set_option linter.unusedVariables false
set_option linter.unusedSimpArgs false

/-- The document's Right of a block. -/
def RefRight (b : Bk) (r : Bool) : Prop := ∃ k, virgateref15_Right.f k b.addr b.aff b.slots b.free (b.attrs.map vc) = some r
theorem BkV.R {W : World} {b : Bk} {A A' : Option Addr} {c c' : Nat} (h : BkR W b A c A' c') : BkV W (.agg (bkL b.addr b.aff b.slots (.slice A b.free.length c) (.slice A' b.attrs.length c')).toArray) b := ⟨A, c, A', c', rfl, h⟩
theorem plain_m (b : Bk) (hk : BkOk b) (hfl : b.free.length ≤ 1000) (hal : b.attrs.length ≤ 1000) (M : List S76) (hM : M = b.attrs.map vc) (v : Value) (w : World) (h : BkV w v b) :
    Calls Try.prog 36 #[v] w fun e w' => ∃ As cs Af cf Aa ca, e = .returned (.agg #[.int .u32 b.addr, .string b.aff, .slice As b.slots.length cs, .slice Af b.free.length cf, .slice Aa M.length ca]) ∧ (Kd.C (Kd.int .i64) w' As b.slots.length b.slots ∧ b.slots.length ≤ cs) ∧ (Kd.C (Kd.int .i64) w' Af b.free.length b.free ∧ b.free.length ≤ cf) ∧ (Kd.C k76 w' Aa M.length M ∧ M.length ≤ ca) ∧ Below w.heap.size w w' := by
  refine (plain_any b hk hfl hal v w h).mono ?_
  rintro e w' ⟨vs, vf, va, rfl, h1, h2, h3, hb⟩
  rw [← hM] at h3
  obtain ⟨As, cs, rfl, l1, c1⟩ := Kd.R_reads h1
  obtain ⟨Af, cf, rfl, l2, c2⟩ := Kd.R_reads h2
  obtain ⟨Aa, ca, rfl, l3, c3⟩ := Kd.R_reads h3
  exact ⟨As, cs, Af, cf, Aa, ca, rfl, ⟨c1, l1⟩, ⟨c2, l2⟩, ⟨c3, l3⟩, hb⟩
theorem refright_m (b : Bk) (r : Bool) (h : RefRight b r) (M : List S76) (hM : M = b.attrs.map vc) (As Af Aa : Option Addr) (cs cf ca : Nat) (w : World)
    (h1 : Kd.C (Kd.int .i64) w As b.slots.length b.slots ∧ b.slots.length ≤ cs) (h2 : Kd.C (Kd.int .i64) w Af b.free.length b.free ∧ b.free.length ≤ cf) (h3 : Kd.C k76 w Aa M.length M ∧ M.length ≤ ca) :
    Calls Try.prog 35 #[.agg #[.int .u32 b.addr, .string b.aff, .slice As b.slots.length cs, .slice Af b.free.length cf, .slice Aa M.length ca]] w fun e w' => e = .returned (.bool r) ∧ Below w.heap.size w w' := by
  obtain ⟨k, hk⟩ := h
  subst hM
  exact virgateref15_Right.calls k _ _ As cs _ Af cf _ Aa ca _ r w h1.1 h1.2 h2.1 h2.2 h3.1 h3.2 hk
end Go.Proofs.Ytemhalnhbgkbcaa.V
end

