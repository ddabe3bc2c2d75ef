/- Texts of ours that the claims of this seat share, put together (part 2). No further condition. -/
import Derived.Test.YtcdopgkkieenjaaDoorProg
import Derived.Below
import Derived.Deep.Draws
import Derived.Deep.AppendLies
import Derived.Maps.AppendAt
import Derived.OwnWalk
import Derived.Laws.BytesArg
import Derived.Laws.MakeOwn
import Derived.Laws.OwnMore
import Derived.Deep.OwnRows
import Derived.Tactics
import Derived.Lib.ConvBytes
import Derived.Laws.Slices
import Derived.WalkKit
import Derived.KernelRfl
import Derived.RowKit3
import Derived.Deep.LoopGhost
import Derived.Deep.QuietTactic
import Derived.BigQuiet
import Derived.WideLaws
import Derived.Deep.DeepCutAuto
import Derived.Deep.CutBlock
import Derived.Deep.RegionHeld3
import Derived.Laws.Rows
import Derived.Lib.AppendStr
import Derived.ArgAppend
import Derived.Laws.IdiomCopy
import Derived.OrdersHeld
import Derived.Laws.BitsLemmas
import Derived.RowKit
import Derived.Test.YtcdopgkkieenjaaDoorCNamesNamedw0
import Derived.Laws.BitsAllLaws
import Derived.Laws.Bits64
import Derived.Laws.RangeAny
import Derived.Lib.Strings
import Derived.Lib.SplitLaws
-- V0
section
-- PRINTED by print.py (a twelfth state) out of the translation. Not trusted: Lean checks it.
namespace Go.Proofs.YtcdopgkkieenjaaDoor.V
open Go.RowKit Go.Proofs.YtcdopgkkieenjaaDoorW.PrintWords Go.Proofs.YtcdopgkkieenjaaDoorW.PrintLast Go.Proofs.YtcdopgkkieenjaaDoorW.PrintMore
attribute [local go_sem] max2_int min2_int max_two min_two max_three min_three max_four min_four   -- for this text's walks alone
set_option linter.unusedVariables false
set_option linter.unusedSimpArgs false



def errW : Option Int → Value
  | none => .nilIface
  | some c => .iface 0 (.int .i64 c)
theorem errW_none : errW none = .nilIface := rfl
theorem errW_some (c : Int) : errW (some c) = .iface 0 (.int .i64 c) := rfl
theorem info9 : (Tryd.prog.info? 9).map (fun i => (i.zero, i.size, i.bytes)) = some (some (.string ⟨#[]⟩), 1, 16) := by kernel_rfl
-- the values' own types
/-! #### struct type 7 -/
/-! #### struct type 8 -/
/-! #### struct type 13 -/
/-! #### struct type 14 -/
/-! #### struct type 43 -/
/-! #### struct type 44 -/
/-! #### struct type 46 -/
structure S46 where
  f0 : Int
  f1 : Int
def z46 : S46 := ⟨(0 : Int), (0 : Int)⟩
/-! #### struct type 128 -/
/-! #### struct type 129 -/
end Go.Proofs.YtcdopgkkieenjaaDoor.V
end

-- VFNamesMay
section
-- PRINTED by print.py (a twelfth state) out of the translation. Not trusted: Lean checks it.
namespace Go.Proofs.YtcdopgkkieenjaaDoor.V
open Go.RowKit Go.Proofs.YtcdopgkkieenjaaDoorW.PrintWords Go.Proofs.YtcdopgkkieenjaaDoorW.PrintLast Go.Proofs.YtcdopgkkieenjaaDoorW.PrintMore
attribute [local go_sem] max2_int min2_int max_two min_two max_three min_three max_four min_four   -- for this text's walks alone
set_option linter.unusedVariables false
set_option linter.unusedSimpArgs false

/-! ### names_may: function 91 -/
mutual
def names_may.j0 : Nat → Int → Bool → Option (Bool)
  | 0, _, _ => none
  | k + 1, x0, x3 => if x3 = true then (names_may.j1 k x0 x3) else (if x0 ≥ 65 then (if x0 ≤ 90 then (names_may.j1 k x0 (decide (x0 ≤ 90))) else (if x0 ≥ 48 then (names_may.j1 k x0 (decide (x0 ≤ 57))) else (names_may.j1 k x0 false))) else (if x0 ≥ 48 then (names_may.j1 k x0 (decide (x0 ≤ 57))) else (names_may.j1 k x0 false)))
def names_may.j1 : Nat → Int → Bool → Option (Bool)
  | 0, _, _ => none
  | k + 1, x0, x3 => if x3 = true then (some true) else (if x0 = 46 then (some true) else (if x0 = 45 then (some true) else (if x0 = 95 then (some true) else (some false))))
end
def names_may.f (k : Nat) (a0 : Int) : Option (Bool) := if a0 ≥ 97 then (names_may.j0 k a0 (decide (a0 ≤ 122))) else (names_may.j0 k a0 false)
theorem names_may.mono_l : ∀ k, (∀ y0 y1, LeO (names_may.j0 k y0 y1) (names_may.j0 (k + 1) y0 y1)) ∧ (∀ y0 y1, LeO (names_may.j1 k y0 y1) (names_may.j1 (k + 1) y0 y1))
  | 0 => ⟨fun _ _ r h => by simp [names_may.j0] at h, fun _ _ r h => by simp [names_may.j1] at h⟩
  | k + 1 => by
    obtain ⟨ih0, ih1⟩ := names_may.mono_l k
    refine ⟨?_, ?_⟩
    · intro y0 y1
      unfold names_may.j0
      repeat' first
      | (with_reducible exact ih0 _ _)
      | (with_reducible exact ih1 _ _)
      | (with_reducible exact LeO.refl _)
      | (with_reducible exact LeO.none _)
      | (with_reducible refine LeO.ite ?_ ?_)
      | (with_reducible refine LeO.bind ?_ (fun _ => ?_))
      | exact ih0 _ _
      | exact ih1 _ _
      | exact LeO.none _
      | refine LeO.ite ?_ ?_
      | refine LeO.bind ?_ (fun _ => ?_)
    · intro y0 y1
      unfold names_may.j1
      repeat' first
      | (with_reducible exact ih0 _ _)
      | (with_reducible exact ih1 _ _)
      | (with_reducible exact LeO.refl _)
      | (with_reducible exact LeO.none _)
      | (with_reducible refine LeO.ite ?_ ?_)
      | (with_reducible refine LeO.bind ?_ (fun _ => ?_))
      | exact ih0 _ _
      | exact ih1 _ _
      | exact LeO.none _
      | refine LeO.ite ?_ ?_
      | refine LeO.bind ?_ (fun _ => ?_)
theorem names_may.mono : ∀ a0 k, LeO (names_may.f k a0) (names_may.f (k + 1) a0) := by
  intro a0 k
  obtain ⟨ih0, ih1⟩ := names_may.mono_l k
  unfold names_may.f
  repeat' first
      | (with_reducible exact ih0 _ _)
      | (with_reducible exact ih1 _ _)
      | (with_reducible exact LeO.refl _)
      | (with_reducible exact LeO.none _)
      | (with_reducible refine LeO.ite ?_ ?_)
      | (with_reducible refine LeO.bind ?_ (fun _ => ?_))
      | exact ih0 _ _
      | exact ih1 _ _
      | exact LeO.none _
      | refine LeO.ite ?_ ?_
      | refine LeO.bind ?_ (fun _ => ?_)
set_option maxHeartbeats 8000000 in
set_option maxRecDepth 100000 in
theorem names_may.calls (k : Nat) (a0 : Int) (r : Bool) (w : World) (h : names_may.f k a0 = some r) :
    Calls Tryd.prog 91 #[.int .i32 a0] w fun e w' => e = .returned (.bool r) ∧ Drawn0 w w' := by
  have H : (if a0 ≥ 97 then (names_may.j0 k a0 (decide (a0 ≤ 122))) else (names_may.j0 k a0 false)) = some r := h
  clear h
  have HC2 := Aside0.mk H
  clear H
  go_enter Tryd.func91, Tryd.ntmps91
  go_upto_region 1 with (fail)
  go_cut [3] (fun v3 wc => ∃ (kq : Nat) (x3_1 : Bool), v3 = .bool x3_1 ∧ Aside0 (names_may.j0 kq a0 x3_1 = some r) ∧ Aside0 (kq ≤ k) ∧ Drawn0 w wc)
  case first =>
    have H := HC2.out
    clear HC2
    by_cases c3 : a0 ≥ 97
    · rw [if_pos c3] at H
      have c3b0 : decide (97 ≤ a0) = true := decide_eq_true c3
      clear c3
      (first | rw [c3b0] | (simp only [i64_w, i32_w]; rw [c3b0]) | skip)
      have H' := Aside0.mk H
      clear H
      go_wp2
      go_meet
      case rel => exact ⟨_, (decide (a0 ≤ 122)), (by first | rfl | (simp; done) | (simp [*]; done)), H', ⟨by first | omega | exact Nat.le_refl _⟩, by repeat (first | exact Drawn0.refl _ | apply Drawn0.step)⟩
    · rw [if_neg c3] at H
      have c3b0 : decide (97 ≤ a0) = false := decide_eq_false c3
      clear c3
      (first | rw [c3b0] | (simp only [i64_w, i32_w]; rw [c3b0]) | skip)
      have H' := Aside0.mk H
      clear H
      go_wp2
      go_meet
      case rel => exact ⟨_, (false), (by first | rfl | (simp; done) | (simp [*]; done)), H', ⟨by first | omega | exact Nat.le_refl _⟩, by repeat (first | exact Drawn0.refl _ | apply Drawn0.step)⟩
  case rest =>
    clear HC2
    try clear p2
    try clear c3
    try clear c3b0
    obtain ⟨kq, x3_1, rfl, HA, HJ1, ⟨mc1, rfl⟩⟩ := hcut
    cases kq with
    | zero => exact absurd HA.out (by simp [names_may.j0])
    | succ kj1 =>
      have H := HA.out
      clear HA
      simp only [names_may.j0] at H
      have HC4 := Aside0.mk H
      clear H
      go_upto_if 3 with (fail)
      go_cut [3] (fun v3 wc => ∃ (kq : Nat) (x3_3 : Bool), v3 = .bool x3_3 ∧ Aside0 (names_may.j1 kq a0 x3_3 = some r) ∧ Aside0 (kq ≤ kj1) ∧ Drawn0 w wc)
      case first =>
        have H := HC4.out
        clear HC4
        by_cases c5 : x3_1 = true
        · subst c5
          have H1 : (names_may.j1 kj1 a0 true) = some r := by rw [if_pos rfl] at H; exact H
          clear H
          have H := H1
          clear H1
          have H' := Aside0.mk H
          clear H
          go_wp2
          go_meet
          case rel => exact ⟨_, (true), (by first | rfl | (simp; done) | (simp [*]; done)), H', ⟨by have := HJ1.out; first | omega | exact Nat.le_refl _⟩, by repeat (first | exact Drawn0.refl _ | apply Drawn0.step)⟩
        · replace c5 := Bool.eq_false_iff.mpr c5
          subst c5
          have H1 : (if a0 ≥ 65 then (if a0 ≤ 90 then (names_may.j1 kj1 a0 (decide (a0 ≤ 90))) else (if a0 ≥ 48 then (names_may.j1 kj1 a0 (decide (a0 ≤ 57))) else (names_may.j1 kj1 a0 false))) else (if a0 ≥ 48 then (names_may.j1 kj1 a0 (decide (a0 ≤ 57))) else (names_may.j1 kj1 a0 false))) = some r := by rw [if_neg (show ¬ (false = true) by decide)] at H; exact H
          clear H
          have H := H1
          clear H1
          by_cases c6 : a0 ≥ 65
          · rw [if_pos c6] at H
            have c6b0 : decide (65 ≤ a0) = true := decide_eq_true c6
            clear c6
            (first | rw [c6b0] | (simp only [i64_w, i32_w]; rw [c6b0]) | skip)
            by_cases c7 : a0 ≤ 90
            · rw [if_pos c7] at H
              have c7b0 : decide (a0 ≤ 90) = true := decide_eq_true c7
              clear c7
              have H' := Aside0.mk H
              clear H
              go_wp2
              go_meet
              case rel => exact ⟨_, (decide (a0 ≤ 90)), (by first | rfl | (simp; done) | (simp [*]; done)), H', ⟨by have := HJ1.out; first | omega | exact Nat.le_refl _⟩, by repeat (first | exact Drawn0.refl _ | apply Drawn0.step)⟩
            · rw [if_neg c7] at H
              have c7b0 : decide (a0 ≤ 90) = false := decide_eq_false c7
              clear c7
              by_cases c8 : a0 ≥ 48
              · rw [if_pos c8] at H
                have c8b0 : decide (48 ≤ a0) = true := decide_eq_true c8
                clear c8
                have H' := Aside0.mk H
                clear H
                go_wp2
                go_meet
                case rel => exact ⟨_, (decide (a0 ≤ 57)), (by first | rfl | (simp; done) | (simp [*]; done)), H', ⟨by have := HJ1.out; first | omega | exact Nat.le_refl _⟩, by repeat (first | exact Drawn0.refl _ | apply Drawn0.step)⟩
              · rw [if_neg c8] at H
                have c8b0 : decide (48 ≤ a0) = false := decide_eq_false c8
                clear c8
                have H' := Aside0.mk H
                clear H
                go_wp2
                go_meet
                case rel => exact ⟨_, (false), (by first | rfl | (simp; done) | (simp [*]; done)), H', ⟨by have := HJ1.out; first | omega | exact Nat.le_refl _⟩, by repeat (first | exact Drawn0.refl _ | apply Drawn0.step)⟩
          · rw [if_neg c6] at H
            have c6b0 : decide (65 ≤ a0) = false := decide_eq_false c6
            clear c6
            (first | rw [c6b0] | (simp only [i64_w, i32_w]; rw [c6b0]) | skip)
            by_cases c9 : a0 ≥ 48
            · rw [if_pos c9] at H
              have c9b0 : decide (48 ≤ a0) = true := decide_eq_true c9
              clear c9
              have H' := Aside0.mk H
              clear H
              go_wp2
              go_meet
              case rel => exact ⟨_, (decide (a0 ≤ 57)), (by first | rfl | (simp; done) | (simp [*]; done)), H', ⟨by have := HJ1.out; first | omega | exact Nat.le_refl _⟩, by repeat (first | exact Drawn0.refl _ | apply Drawn0.step)⟩
            · rw [if_neg c9] at H
              have c9b0 : decide (48 ≤ a0) = false := decide_eq_false c9
              clear c9
              have H' := Aside0.mk H
              clear H
              go_wp2
              go_meet
              case rel => exact ⟨_, (false), (by first | rfl | (simp; done) | (simp [*]; done)), H', ⟨by have := HJ1.out; first | omega | exact Nat.le_refl _⟩, by repeat (first | exact Drawn0.refl _ | apply Drawn0.step)⟩
      case rest =>
        clear HC4
        try clear c1
        try clear p2
        try clear c3
        try clear c3b0
        try clear c5
        try clear c6
        try clear c6b0
        try clear c7
        try clear c7b0
        try clear c8
        try clear c8b0
        try clear c9
        try clear c9b0
        try clear p2
        obtain ⟨kq, x3_3, rfl, HA, HJ3, ⟨mc3, rfl⟩⟩ := hcut
        cases kq with
        | zero => exact absurd HA.out (by simp [names_may.j1])
        | succ kj3 =>
          have H := HA.out
          clear HA
          simp only [names_may.j1] at H
          by_cases c10 : x3_3 = true
          · subst c10
            have H1 : (some true) = some r := by rw [if_pos rfl] at H; exact H
            clear H
            have H := H1
            clear H1
            obtain rfl := Option.some.inj H
            go_wp2
            go_ret
            exact ⟨by first | rfl | (simp; done) | (simp [*]; done), by repeat (first | exact Drawn0.refl _ | apply Drawn0.step)⟩
          · replace c10 := Bool.eq_false_iff.mpr c10
            subst c10
            have H1 : (if a0 = 46 then (some true) else (if a0 = 45 then (some true) else (if a0 = 95 then (some true) else (some false)))) = some r := by rw [if_neg (show ¬ (false = true) by decide)] at H; exact H
            clear H
            have H := H1
            clear H1
            by_cases c11 : a0 = 46
            · rw [if_pos c11] at H
              have c11b0 : (a0 == 46) = true := beq_iff_eq.mpr c11
              have c11b1 : (a0 != 46) = false := bne_eq_false_iff_eq.mpr c11
              clear c11
              obtain rfl := Option.some.inj H
              go_wp2
              go_ret
              exact ⟨by first | rfl | (simp; done) | (simp [*]; done), by repeat (first | exact Drawn0.refl _ | apply Drawn0.step)⟩
            · rw [if_neg c11] at H
              have c11b0 : (a0 == 46) = false := beq_eq_false_iff_ne.mpr c11
              have c11b1 : (a0 != 46) = true := bne_iff_ne.mpr c11
              by_cases c12 : a0 = 45
              · rw [if_pos c12] at H
                have c12b0 : (a0 == 45) = true := beq_iff_eq.mpr c12
                have c12b1 : (a0 != 45) = false := bne_eq_false_iff_eq.mpr c12
                clear c12
                obtain rfl := Option.some.inj H
                go_wp2
                go_ret
                exact ⟨by first | rfl | (simp; done) | (simp [*]; done), by repeat (first | exact Drawn0.refl _ | apply Drawn0.step)⟩
              · rw [if_neg c12] at H
                have c12b0 : (a0 == 45) = false := beq_eq_false_iff_ne.mpr c12
                have c12b1 : (a0 != 45) = true := bne_iff_ne.mpr c12
                by_cases c13 : a0 = 95
                · rw [if_pos c13] at H
                  have c13b0 : (a0 == 95) = true := beq_iff_eq.mpr c13
                  have c13b1 : (a0 != 95) = false := bne_eq_false_iff_eq.mpr c13
                  clear c13
                  obtain rfl := Option.some.inj H
                  go_wp2
                  go_ret
                  exact ⟨by first | rfl | (simp; done) | (simp [*]; done), by repeat (first | exact Drawn0.refl _ | apply Drawn0.step)⟩
                · rw [if_neg c13] at H
                  have c13b0 : (a0 == 95) = false := beq_eq_false_iff_ne.mpr c13
                  have c13b1 : (a0 != 95) = true := bne_iff_ne.mpr c13
                  obtain rfl := Option.some.inj H
                  go_wp2
                  go_ret
                  exact ⟨by first | rfl | (simp; done) | (simp [*]; done), by repeat (first | exact Drawn0.refl _ | apply Drawn0.step)⟩
end Go.Proofs.YtcdopgkkieenjaaDoor.V
end

-- VFVirgateref12Right
section
-- PRINTED by print.py (a twelfth state) out of the translation. Not trusted: Lean checks it.
namespace Go.Proofs.YtcdopgkkieenjaaDoor.V
open Go.RowKit Go.Proofs.YtcdopgkkieenjaaDoorW.PrintWords Go.Proofs.YtcdopgkkieenjaaDoorW.PrintLast Go.Proofs.YtcdopgkkieenjaaDoorW.PrintMore
attribute [local go_sem] max2_int min2_int max_two min_two max_three min_three max_four min_four   -- for this text's walks alone
set_option linter.unusedVariables false
set_option linter.unusedSimpArgs false

/-! ### virgateref12_Right: function 66 -/
def virgateref12_Right.l0 : Nat → ByteArray → Int → Option (Bool)
  | 0, _, _ => none
  | k + 1, x0, x3 => if x3 < (x0.size : Int) then (if 0 ≤ x3 then (if (bt x0 x3) ≥ 97 then (if (bt x0 x3) ≤ 122 then (virgateref12_Right.l0 k x0 (wrap64 (x3 + 1))) else (if (bt x0 x3) ≥ 65 then (if (bt x0 x3) ≤ 90 then (virgateref12_Right.l0 k x0 (wrap64 (x3 + 1))) else (if (bt x0 x3) ≥ 48 then (if (bt x0 x3) ≤ 57 then (virgateref12_Right.l0 k x0 (wrap64 (x3 + 1))) else (if (bt x0 x3) = 46 then (virgateref12_Right.l0 k x0 (wrap64 (x3 + 1))) else (if (bt x0 x3) = 45 then (virgateref12_Right.l0 k x0 (wrap64 (x3 + 1))) else (if ((bt x0 x3) = 95) then (virgateref12_Right.l0 k x0 (wrap64 (x3 + 1))) else (some false))))) else (if (bt x0 x3) = 46 then (virgateref12_Right.l0 k x0 (wrap64 (x3 + 1))) else (if (bt x0 x3) = 45 then (virgateref12_Right.l0 k x0 (wrap64 (x3 + 1))) else (if ((bt x0 x3) = 95) then (virgateref12_Right.l0 k x0 (wrap64 (x3 + 1))) else (some false)))))) else (if (bt x0 x3) ≥ 48 then (if (bt x0 x3) ≤ 57 then (virgateref12_Right.l0 k x0 (wrap64 (x3 + 1))) else (if (bt x0 x3) = 46 then (virgateref12_Right.l0 k x0 (wrap64 (x3 + 1))) else (if (bt x0 x3) = 45 then (virgateref12_Right.l0 k x0 (wrap64 (x3 + 1))) else (if ((bt x0 x3) = 95) then (virgateref12_Right.l0 k x0 (wrap64 (x3 + 1))) else (some false))))) else (if (bt x0 x3) = 46 then (virgateref12_Right.l0 k x0 (wrap64 (x3 + 1))) else (if (bt x0 x3) = 45 then (virgateref12_Right.l0 k x0 (wrap64 (x3 + 1))) else (if ((bt x0 x3) = 95) then (virgateref12_Right.l0 k x0 (wrap64 (x3 + 1))) else (some false))))))) else (if (bt x0 x3) ≥ 65 then (if (bt x0 x3) ≤ 90 then (virgateref12_Right.l0 k x0 (wrap64 (x3 + 1))) else (if (bt x0 x3) ≥ 48 then (if (bt x0 x3) ≤ 57 then (virgateref12_Right.l0 k x0 (wrap64 (x3 + 1))) else (if (bt x0 x3) = 46 then (virgateref12_Right.l0 k x0 (wrap64 (x3 + 1))) else (if (bt x0 x3) = 45 then (virgateref12_Right.l0 k x0 (wrap64 (x3 + 1))) else (if ((bt x0 x3) = 95) then (virgateref12_Right.l0 k x0 (wrap64 (x3 + 1))) else (some false))))) else (if (bt x0 x3) = 46 then (virgateref12_Right.l0 k x0 (wrap64 (x3 + 1))) else (if (bt x0 x3) = 45 then (virgateref12_Right.l0 k x0 (wrap64 (x3 + 1))) else (if ((bt x0 x3) = 95) then (virgateref12_Right.l0 k x0 (wrap64 (x3 + 1))) else (some false)))))) else (if (bt x0 x3) ≥ 48 then (if (bt x0 x3) ≤ 57 then (virgateref12_Right.l0 k x0 (wrap64 (x3 + 1))) else (if (bt x0 x3) = 46 then (virgateref12_Right.l0 k x0 (wrap64 (x3 + 1))) else (if (bt x0 x3) = 45 then (virgateref12_Right.l0 k x0 (wrap64 (x3 + 1))) else (if ((bt x0 x3) = 95) then (virgateref12_Right.l0 k x0 (wrap64 (x3 + 1))) else (some false))))) else (if (bt x0 x3) = 46 then (virgateref12_Right.l0 k x0 (wrap64 (x3 + 1))) else (if (bt x0 x3) = 45 then (virgateref12_Right.l0 k x0 (wrap64 (x3 + 1))) else (if ((bt x0 x3) = 95) then (virgateref12_Right.l0 k x0 (wrap64 (x3 + 1))) else (some false))))))) else (none)) else (if (x0.size : Int) ≥ 1 then (some (decide ((x0.size : Int) ≤ 64))) else (some false))
def virgateref12_Right.f (k : Nat) (a0 : ByteArray) : Option (Bool) := virgateref12_Right.l0 k a0 0
theorem virgateref12_Right.mono_l : ∀ k, (∀ y0 y1, LeO (virgateref12_Right.l0 k y0 y1) (virgateref12_Right.l0 (k + 1) y0 y1))
  | 0 => fun _ _ r h => by simp [virgateref12_Right.l0] at h
  | k + 1 => by
    have ih0 := virgateref12_Right.mono_l k
    · intro y0 y1
      unfold virgateref12_Right.l0
      repeat' first
      | (with_reducible exact ih0 _ _)
      | (with_reducible exact LeO.refl _)
      | (with_reducible exact LeO.none _)
      | (with_reducible refine LeO.ite ?_ ?_)
      | (with_reducible refine LeO.bind ?_ (fun _ => ?_))
      | exact ih0 _ _
      | exact LeO.none _
      | refine LeO.ite ?_ ?_
      | refine LeO.bind ?_ (fun _ => ?_)
theorem virgateref12_Right.mono : ∀ a0 k, LeO (virgateref12_Right.f k a0) (virgateref12_Right.f (k + 1) a0) := by
  intro a0 k
  have ih0 := virgateref12_Right.mono_l k
  unfold virgateref12_Right.f
  repeat' first
      | (with_reducible exact ih0 _ _)
      | (with_reducible exact LeO.refl _)
      | (with_reducible exact LeO.none _)
      | (with_reducible refine LeO.ite ?_ ?_)
      | (with_reducible refine LeO.bind ?_ (fun _ => ?_))
      | exact ih0 _ _
      | exact LeO.none _
      | refine LeO.ite ?_ ?_
      | refine LeO.bind ?_ (fun _ => ?_)
set_option maxHeartbeats 8000000 in
set_option maxRecDepth 100000 in
theorem virgateref12_Right.calls (k : Nat) (a0 : ByteArray) (r : Bool) (w : World) (h : virgateref12_Right.f k a0 = some r) :
    Calls Tryd.prog 66 #[.string a0] w fun e w' => e = .returned (.bool r) ∧ Drawn0 w w' := by
  have H : (virgateref12_Right.l0 k a0 0) = some r := h
  clear h
  have H' := Aside0.mk H
  clear H
  go_enter Tryd.func66, Tryd.ntmps66
  go_wp2
  go_loopg [3] k (fun kq v3 w' => ∃ (x3_1 : Int), v3 = .int .i64 x3_1 ∧ Aside0 (virgateref12_Right.l0 kq a0 x3_1 = some r) ∧ Aside0 (kq ≤ k) ∧ Drawn0 w w')
  case atStart => exact ⟨(0), (by first | rfl | (simp; done) | (simp [*]; done)), H', ⟨Nat.le_refl _⟩, by repeat (first | exact Drawn0.refl _ | apply Drawn0.step)⟩
  case round =>
    clear H'
    obtain ⟨x3_1, rfl, HA, HK1, ⟨m1, rfl⟩⟩ := hrel
    cases gk with
    | zero => exact absurd HA.out (by simp [virgateref12_Right.l0])
    | succ k1 =>
      have H := HA.out
      clear HA
      simp only [virgateref12_Right.l0] at H
      by_cases c2 : x3_1 < (a0.size : Int)
      · rw [if_pos c2] at H
        have c2b0 : decide (x3_1 < (a0.size : Int)) = true := decide_eq_true c2
        clear c2
        by_cases c3 : 0 ≤ x3_1
        · rw [if_pos c3] at H
          have c3b0 : decide (0 ≤ x3_1) = true := decide_eq_true c3
          clear c3
          by_cases c5 : (bt a0 x3_1) ≥ 97
          · rw [if_pos c5] at H
            have c5b0 : decide (97 ≤ (bt a0 x3_1)) = true := decide_eq_true c5
            clear c5
            by_cases c6 : (bt a0 x3_1) ≤ 122
            · rw [if_pos c6] at H
              have c6b0 : decide ((bt a0 x3_1) ≤ 122) = true := decide_eq_true c6
              clear c6
              have H' := Aside0.mk H
              clear H
              have p4 : 0 ≤ (x3_1 : Int) := of_decide_eq_true (by first | (with_reducible assumption) | assumption)
              have q4 : x3_1 < (a0.size : Int) := of_decide_eq_true (by first | (with_reducible assumption) | assumption)
              have hx4 := bt_at a0 x3_1
              replace p4 := eq_true p4
              replace q4 := eq_true q4
              go_wp2
              go_roundg k1
              case measure => have := HK1.out; omega
              case rel => exact ⟨(wrap64 (x3_1 + 1)), (by first | rfl | (simp; done) | (simp [*]; done)), H', ⟨by have := HK1.out; omega⟩, by repeat (first | exact Drawn0.refl _ | apply Drawn0.step)⟩
            · rw [if_neg c6] at H
              have c6b0 : decide ((bt a0 x3_1) ≤ 122) = false := decide_eq_false c6
              clear c6
              by_cases c7 : (bt a0 x3_1) ≥ 65
              · rw [if_pos c7] at H
                have c7b0 : decide (65 ≤ (bt a0 x3_1)) = true := decide_eq_true c7
                clear c7
                by_cases c8 : (bt a0 x3_1) ≤ 90
                · rw [if_pos c8] at H
                  have c8b0 : decide ((bt a0 x3_1) ≤ 90) = true := decide_eq_true c8
                  clear c8
                  have H' := Aside0.mk H
                  clear H
                  have p4 : 0 ≤ (x3_1 : Int) := of_decide_eq_true (by first | (with_reducible assumption) | assumption)
                  have q4 : x3_1 < (a0.size : Int) := of_decide_eq_true (by first | (with_reducible assumption) | assumption)
                  have hx4 := bt_at a0 x3_1
                  replace p4 := eq_true p4
                  replace q4 := eq_true q4
                  go_wp2
                  go_roundg k1
                  case measure => have := HK1.out; omega
                  case rel => exact ⟨(wrap64 (x3_1 + 1)), (by first | rfl | (simp; done) | (simp [*]; done)), H', ⟨by have := HK1.out; omega⟩, by repeat (first | exact Drawn0.refl _ | apply Drawn0.step)⟩
                · rw [if_neg c8] at H
                  have c8b0 : decide ((bt a0 x3_1) ≤ 90) = false := decide_eq_false c8
                  clear c8
                  by_cases c9 : (bt a0 x3_1) ≥ 48
                  · rw [if_pos c9] at H
                    have c9b0 : decide (48 ≤ (bt a0 x3_1)) = true := decide_eq_true c9
                    clear c9
                    by_cases c10 : (bt a0 x3_1) ≤ 57
                    · rw [if_pos c10] at H
                      have c10b0 : decide ((bt a0 x3_1) ≤ 57) = true := decide_eq_true c10
                      clear c10
                      have H' := Aside0.mk H
                      clear H
                      have p4 : 0 ≤ (x3_1 : Int) := of_decide_eq_true (by first | (with_reducible assumption) | assumption)
                      have q4 : x3_1 < (a0.size : Int) := of_decide_eq_true (by first | (with_reducible assumption) | assumption)
                      have hx4 := bt_at a0 x3_1
                      replace p4 := eq_true p4
                      replace q4 := eq_true q4
                      go_wp2
                      go_roundg k1
                      case measure => have := HK1.out; omega
                      case rel => exact ⟨(wrap64 (x3_1 + 1)), (by first | rfl | (simp; done) | (simp [*]; done)), H', ⟨by have := HK1.out; omega⟩, by repeat (first | exact Drawn0.refl _ | apply Drawn0.step)⟩
                    · rw [if_neg c10] at H
                      have c10b0 : decide ((bt a0 x3_1) ≤ 57) = false := decide_eq_false c10
                      clear c10
                      by_cases c11 : (bt a0 x3_1) = 46
                      · rw [if_pos c11] at H
                        have c11b0 : ((bt a0 x3_1) == 46) = true := beq_iff_eq.mpr c11
                        have c11b1 : ((bt a0 x3_1) != 46) = false := bne_eq_false_iff_eq.mpr c11
                        clear c11
                        have H' := Aside0.mk H
                        clear H
                        have p4 : 0 ≤ (x3_1 : Int) := of_decide_eq_true (by first | (with_reducible assumption) | assumption)
                        have q4 : x3_1 < (a0.size : Int) := of_decide_eq_true (by first | (with_reducible assumption) | assumption)
                        have hx4 := bt_at a0 x3_1
                        replace p4 := eq_true p4
                        replace q4 := eq_true q4
                        go_wp2
                        go_roundg k1
                        case measure => have := HK1.out; omega
                        case rel => exact ⟨(wrap64 (x3_1 + 1)), (by first | rfl | (simp; done) | (simp [*]; done)), H', ⟨by have := HK1.out; omega⟩, by repeat (first | exact Drawn0.refl _ | apply Drawn0.step)⟩
                      · rw [if_neg c11] at H
                        have c11b0 : ((bt a0 x3_1) == 46) = false := beq_eq_false_iff_ne.mpr c11
                        have c11b1 : ((bt a0 x3_1) != 46) = true := bne_iff_ne.mpr c11
                        by_cases c12 : (bt a0 x3_1) = 45
                        · rw [if_pos c12] at H
                          have c12b0 : ((bt a0 x3_1) == 45) = true := beq_iff_eq.mpr c12
                          have c12b1 : ((bt a0 x3_1) != 45) = false := bne_eq_false_iff_eq.mpr c12
                          clear c12
                          have H' := Aside0.mk H
                          clear H
                          have p4 : 0 ≤ (x3_1 : Int) := of_decide_eq_true (by first | (with_reducible assumption) | assumption)
                          have q4 : x3_1 < (a0.size : Int) := of_decide_eq_true (by first | (with_reducible assumption) | assumption)
                          have hx4 := bt_at a0 x3_1
                          replace p4 := eq_true p4
                          replace q4 := eq_true q4
                          go_wp2
                          go_roundg k1
                          case measure => have := HK1.out; omega
                          case rel => exact ⟨(wrap64 (x3_1 + 1)), (by first | rfl | (simp; done) | (simp [*]; done)), H', ⟨by have := HK1.out; omega⟩, by repeat (first | exact Drawn0.refl _ | apply Drawn0.step)⟩
                        · rw [if_neg c12] at H
                          have c12b0 : ((bt a0 x3_1) == 45) = false := beq_eq_false_iff_ne.mpr c12
                          have c12b1 : ((bt a0 x3_1) != 45) = true := bne_iff_ne.mpr c12
                          by_cases c13 : ((bt a0 x3_1) = 95)
                          · rw [if_pos c13] at H
                            have c13b0 : ((bt a0 x3_1) == 95) = true := beq_iff_eq.mpr c13
                            have c13b1 : ((bt a0 x3_1) != 95) = false := bne_eq_false_iff_eq.mpr c13
                            clear c13
                            have H' := Aside0.mk H
                            clear H
                            have p4 : 0 ≤ (x3_1 : Int) := of_decide_eq_true (by first | (with_reducible assumption) | assumption)
                            have q4 : x3_1 < (a0.size : Int) := of_decide_eq_true (by first | (with_reducible assumption) | assumption)
                            have hx4 := bt_at a0 x3_1
                            replace p4 := eq_true p4
                            replace q4 := eq_true q4
                            go_wp2
                            go_roundg k1
                            case measure => have := HK1.out; omega
                            case rel => exact ⟨(wrap64 (x3_1 + 1)), (by first | rfl | (simp; done) | (simp [*]; done)), H', ⟨by have := HK1.out; omega⟩, by repeat (first | exact Drawn0.refl _ | apply Drawn0.step)⟩
                          · rw [if_neg c13] at H
                            have c13b0 : ((bt a0 x3_1) == 95) = false := beq_eq_false_iff_ne.mpr c13
                            have c13b1 : ((bt a0 x3_1) != 95) = true := bne_iff_ne.mpr c13
                            obtain rfl := Option.some.inj H
                            have p4 : 0 ≤ (x3_1 : Int) := of_decide_eq_true (by first | (with_reducible assumption) | assumption)
                            have q4 : x3_1 < (a0.size : Int) := of_decide_eq_true (by first | (with_reducible assumption) | assumption)
                            have hx4 := bt_at a0 x3_1
                            replace p4 := eq_true p4
                            replace q4 := eq_true q4
                            go_wp2
                            go_ret
                            exact ⟨by first | rfl | (simp; done) | (simp [*]; done), by repeat (first | exact Drawn0.refl _ | apply Drawn0.step)⟩
                  · rw [if_neg c9] at H
                    have c9b0 : decide (48 ≤ (bt a0 x3_1)) = false := decide_eq_false c9
                    clear c9
                    by_cases c14 : (bt a0 x3_1) = 46
                    · rw [if_pos c14] at H
                      have c14b0 : ((bt a0 x3_1) == 46) = true := beq_iff_eq.mpr c14
                      have c14b1 : ((bt a0 x3_1) != 46) = false := bne_eq_false_iff_eq.mpr c14
                      clear c14
                      have H' := Aside0.mk H
                      clear H
                      have p4 : 0 ≤ (x3_1 : Int) := of_decide_eq_true (by first | (with_reducible assumption) | assumption)
                      have q4 : x3_1 < (a0.size : Int) := of_decide_eq_true (by first | (with_reducible assumption) | assumption)
                      have hx4 := bt_at a0 x3_1
                      replace p4 := eq_true p4
                      replace q4 := eq_true q4
                      go_wp2
                      go_roundg k1
                      case measure => have := HK1.out; omega
                      case rel => exact ⟨(wrap64 (x3_1 + 1)), (by first | rfl | (simp; done) | (simp [*]; done)), H', ⟨by have := HK1.out; omega⟩, by repeat (first | exact Drawn0.refl _ | apply Drawn0.step)⟩
                    · rw [if_neg c14] at H
                      have c14b0 : ((bt a0 x3_1) == 46) = false := beq_eq_false_iff_ne.mpr c14
                      have c14b1 : ((bt a0 x3_1) != 46) = true := bne_iff_ne.mpr c14
                      by_cases c15 : (bt a0 x3_1) = 45
                      · rw [if_pos c15] at H
                        have c15b0 : ((bt a0 x3_1) == 45) = true := beq_iff_eq.mpr c15
                        have c15b1 : ((bt a0 x3_1) != 45) = false := bne_eq_false_iff_eq.mpr c15
                        clear c15
                        have H' := Aside0.mk H
                        clear H
                        have p4 : 0 ≤ (x3_1 : Int) := of_decide_eq_true (by first | (with_reducible assumption) | assumption)
                        have q4 : x3_1 < (a0.size : Int) := of_decide_eq_true (by first | (with_reducible assumption) | assumption)
                        have hx4 := bt_at a0 x3_1
                        replace p4 := eq_true p4
                        replace q4 := eq_true q4
                        go_wp2
                        go_roundg k1
                        case measure => have := HK1.out; omega
                        case rel => exact ⟨(wrap64 (x3_1 + 1)), (by first | rfl | (simp; done) | (simp [*]; done)), H', ⟨by have := HK1.out; omega⟩, by repeat (first | exact Drawn0.refl _ | apply Drawn0.step)⟩
                      · rw [if_neg c15] at H
                        have c15b0 : ((bt a0 x3_1) == 45) = false := beq_eq_false_iff_ne.mpr c15
                        have c15b1 : ((bt a0 x3_1) != 45) = true := bne_iff_ne.mpr c15
                        by_cases c16 : ((bt a0 x3_1) = 95)
                        · rw [if_pos c16] at H
                          have c16b0 : ((bt a0 x3_1) == 95) = true := beq_iff_eq.mpr c16
                          have c16b1 : ((bt a0 x3_1) != 95) = false := bne_eq_false_iff_eq.mpr c16
                          clear c16
                          have H' := Aside0.mk H
                          clear H
                          have p4 : 0 ≤ (x3_1 : Int) := of_decide_eq_true (by first | (with_reducible assumption) | assumption)
                          have q4 : x3_1 < (a0.size : Int) := of_decide_eq_true (by first | (with_reducible assumption) | assumption)
                          have hx4 := bt_at a0 x3_1
                          replace p4 := eq_true p4
                          replace q4 := eq_true q4
                          go_wp2
                          go_roundg k1
                          case measure => have := HK1.out; omega
                          case rel => exact ⟨(wrap64 (x3_1 + 1)), (by first | rfl | (simp; done) | (simp [*]; done)), H', ⟨by have := HK1.out; omega⟩, by repeat (first | exact Drawn0.refl _ | apply Drawn0.step)⟩
                        · rw [if_neg c16] at H
                          have c16b0 : ((bt a0 x3_1) == 95) = false := beq_eq_false_iff_ne.mpr c16
                          have c16b1 : ((bt a0 x3_1) != 95) = true := bne_iff_ne.mpr c16
                          obtain rfl := Option.some.inj H
                          have p4 : 0 ≤ (x3_1 : Int) := of_decide_eq_true (by first | (with_reducible assumption) | assumption)
                          have q4 : x3_1 < (a0.size : Int) := of_decide_eq_true (by first | (with_reducible assumption) | assumption)
                          have hx4 := bt_at a0 x3_1
                          replace p4 := eq_true p4
                          replace q4 := eq_true q4
                          go_wp2
                          go_ret
                          exact ⟨by first | rfl | (simp; done) | (simp [*]; done), by repeat (first | exact Drawn0.refl _ | apply Drawn0.step)⟩
              · rw [if_neg c7] at H
                have c7b0 : decide (65 ≤ (bt a0 x3_1)) = false := decide_eq_false c7
                clear c7
                by_cases c17 : (bt a0 x3_1) ≥ 48
                · rw [if_pos c17] at H
                  have c17b0 : decide (48 ≤ (bt a0 x3_1)) = true := decide_eq_true c17
                  clear c17
                  by_cases c18 : (bt a0 x3_1) ≤ 57
                  · rw [if_pos c18] at H
                    have c18b0 : decide ((bt a0 x3_1) ≤ 57) = true := decide_eq_true c18
                    clear c18
                    have H' := Aside0.mk H
                    clear H
                    have p4 : 0 ≤ (x3_1 : Int) := of_decide_eq_true (by first | (with_reducible assumption) | assumption)
                    have q4 : x3_1 < (a0.size : Int) := of_decide_eq_true (by first | (with_reducible assumption) | assumption)
                    have hx4 := bt_at a0 x3_1
                    replace p4 := eq_true p4
                    replace q4 := eq_true q4
                    go_wp2
                    go_roundg k1
                    case measure => have := HK1.out; omega
                    case rel => exact ⟨(wrap64 (x3_1 + 1)), (by first | rfl | (simp; done) | (simp [*]; done)), H', ⟨by have := HK1.out; omega⟩, by repeat (first | exact Drawn0.refl _ | apply Drawn0.step)⟩
                  · rw [if_neg c18] at H
                    have c18b0 : decide ((bt a0 x3_1) ≤ 57) = false := decide_eq_false c18
                    clear c18
                    by_cases c19 : (bt a0 x3_1) = 46
                    · rw [if_pos c19] at H
                      have c19b0 : ((bt a0 x3_1) == 46) = true := beq_iff_eq.mpr c19
                      have c19b1 : ((bt a0 x3_1) != 46) = false := bne_eq_false_iff_eq.mpr c19
                      clear c19
                      have H' := Aside0.mk H
                      clear H
                      have p4 : 0 ≤ (x3_1 : Int) := of_decide_eq_true (by first | (with_reducible assumption) | assumption)
                      have q4 : x3_1 < (a0.size : Int) := of_decide_eq_true (by first | (with_reducible assumption) | assumption)
                      have hx4 := bt_at a0 x3_1
                      replace p4 := eq_true p4
                      replace q4 := eq_true q4
                      go_wp2
                      go_roundg k1
                      case measure => have := HK1.out; omega
                      case rel => exact ⟨(wrap64 (x3_1 + 1)), (by first | rfl | (simp; done) | (simp [*]; done)), H', ⟨by have := HK1.out; omega⟩, by repeat (first | exact Drawn0.refl _ | apply Drawn0.step)⟩
                    · rw [if_neg c19] at H
                      have c19b0 : ((bt a0 x3_1) == 46) = false := beq_eq_false_iff_ne.mpr c19
                      have c19b1 : ((bt a0 x3_1) != 46) = true := bne_iff_ne.mpr c19
                      by_cases c20 : (bt a0 x3_1) = 45
                      · rw [if_pos c20] at H
                        have c20b0 : ((bt a0 x3_1) == 45) = true := beq_iff_eq.mpr c20
                        have c20b1 : ((bt a0 x3_1) != 45) = false := bne_eq_false_iff_eq.mpr c20
                        clear c20
                        have H' := Aside0.mk H
                        clear H
                        have p4 : 0 ≤ (x3_1 : Int) := of_decide_eq_true (by first | (with_reducible assumption) | assumption)
                        have q4 : x3_1 < (a0.size : Int) := of_decide_eq_true (by first | (with_reducible assumption) | assumption)
                        have hx4 := bt_at a0 x3_1
                        replace p4 := eq_true p4
                        replace q4 := eq_true q4
                        go_wp2
                        go_roundg k1
                        case measure => have := HK1.out; omega
                        case rel => exact ⟨(wrap64 (x3_1 + 1)), (by first | rfl | (simp; done) | (simp [*]; done)), H', ⟨by have := HK1.out; omega⟩, by repeat (first | exact Drawn0.refl _ | apply Drawn0.step)⟩
                      · rw [if_neg c20] at H
                        have c20b0 : ((bt a0 x3_1) == 45) = false := beq_eq_false_iff_ne.mpr c20
                        have c20b1 : ((bt a0 x3_1) != 45) = true := bne_iff_ne.mpr c20
                        by_cases c21 : ((bt a0 x3_1) = 95)
                        · rw [if_pos c21] at H
                          have c21b0 : ((bt a0 x3_1) == 95) = true := beq_iff_eq.mpr c21
                          have c21b1 : ((bt a0 x3_1) != 95) = false := bne_eq_false_iff_eq.mpr c21
                          clear c21
                          have H' := Aside0.mk H
                          clear H
                          have p4 : 0 ≤ (x3_1 : Int) := of_decide_eq_true (by first | (with_reducible assumption) | assumption)
                          have q4 : x3_1 < (a0.size : Int) := of_decide_eq_true (by first | (with_reducible assumption) | assumption)
                          have hx4 := bt_at a0 x3_1
                          replace p4 := eq_true p4
                          replace q4 := eq_true q4
                          go_wp2
                          go_roundg k1
                          case measure => have := HK1.out; omega
                          case rel => exact ⟨(wrap64 (x3_1 + 1)), (by first | rfl | (simp; done) | (simp [*]; done)), H', ⟨by have := HK1.out; omega⟩, by repeat (first | exact Drawn0.refl _ | apply Drawn0.step)⟩
                        · rw [if_neg c21] at H
                          have c21b0 : ((bt a0 x3_1) == 95) = false := beq_eq_false_iff_ne.mpr c21
                          have c21b1 : ((bt a0 x3_1) != 95) = true := bne_iff_ne.mpr c21
                          obtain rfl := Option.some.inj H
                          have p4 : 0 ≤ (x3_1 : Int) := of_decide_eq_true (by first | (with_reducible assumption) | assumption)
                          have q4 : x3_1 < (a0.size : Int) := of_decide_eq_true (by first | (with_reducible assumption) | assumption)
                          have hx4 := bt_at a0 x3_1
                          replace p4 := eq_true p4
                          replace q4 := eq_true q4
                          go_wp2
                          go_ret
                          exact ⟨by first | rfl | (simp; done) | (simp [*]; done), by repeat (first | exact Drawn0.refl _ | apply Drawn0.step)⟩
                · rw [if_neg c17] at H
                  have c17b0 : decide (48 ≤ (bt a0 x3_1)) = false := decide_eq_false c17
                  clear c17
                  by_cases c22 : (bt a0 x3_1) = 46
                  · rw [if_pos c22] at H
                    have c22b0 : ((bt a0 x3_1) == 46) = true := beq_iff_eq.mpr c22
                    have c22b1 : ((bt a0 x3_1) != 46) = false := bne_eq_false_iff_eq.mpr c22
                    clear c22
                    have H' := Aside0.mk H
                    clear H
                    have p4 : 0 ≤ (x3_1 : Int) := of_decide_eq_true (by first | (with_reducible assumption) | assumption)
                    have q4 : x3_1 < (a0.size : Int) := of_decide_eq_true (by first | (with_reducible assumption) | assumption)
                    have hx4 := bt_at a0 x3_1
                    replace p4 := eq_true p4
                    replace q4 := eq_true q4
                    go_wp2
                    go_roundg k1
                    case measure => have := HK1.out; omega
                    case rel => exact ⟨(wrap64 (x3_1 + 1)), (by first | rfl | (simp; done) | (simp [*]; done)), H', ⟨by have := HK1.out; omega⟩, by repeat (first | exact Drawn0.refl _ | apply Drawn0.step)⟩
                  · rw [if_neg c22] at H
                    have c22b0 : ((bt a0 x3_1) == 46) = false := beq_eq_false_iff_ne.mpr c22
                    have c22b1 : ((bt a0 x3_1) != 46) = true := bne_iff_ne.mpr c22
                    by_cases c23 : (bt a0 x3_1) = 45
                    · rw [if_pos c23] at H
                      have c23b0 : ((bt a0 x3_1) == 45) = true := beq_iff_eq.mpr c23
                      have c23b1 : ((bt a0 x3_1) != 45) = false := bne_eq_false_iff_eq.mpr c23
                      clear c23
                      have H' := Aside0.mk H
                      clear H
                      have p4 : 0 ≤ (x3_1 : Int) := of_decide_eq_true (by first | (with_reducible assumption) | assumption)
                      have q4 : x3_1 < (a0.size : Int) := of_decide_eq_true (by first | (with_reducible assumption) | assumption)
                      have hx4 := bt_at a0 x3_1
                      replace p4 := eq_true p4
                      replace q4 := eq_true q4
                      go_wp2
                      go_roundg k1
                      case measure => have := HK1.out; omega
                      case rel => exact ⟨(wrap64 (x3_1 + 1)), (by first | rfl | (simp; done) | (simp [*]; done)), H', ⟨by have := HK1.out; omega⟩, by repeat (first | exact Drawn0.refl _ | apply Drawn0.step)⟩
                    · rw [if_neg c23] at H
                      have c23b0 : ((bt a0 x3_1) == 45) = false := beq_eq_false_iff_ne.mpr c23
                      have c23b1 : ((bt a0 x3_1) != 45) = true := bne_iff_ne.mpr c23
                      by_cases c24 : ((bt a0 x3_1) = 95)
                      · rw [if_pos c24] at H
                        have c24b0 : ((bt a0 x3_1) == 95) = true := beq_iff_eq.mpr c24
                        have c24b1 : ((bt a0 x3_1) != 95) = false := bne_eq_false_iff_eq.mpr c24
                        clear c24
                        have H' := Aside0.mk H
                        clear H
                        have p4 : 0 ≤ (x3_1 : Int) := of_decide_eq_true (by first | (with_reducible assumption) | assumption)
                        have q4 : x3_1 < (a0.size : Int) := of_decide_eq_true (by first | (with_reducible assumption) | assumption)
                        have hx4 := bt_at a0 x3_1
                        replace p4 := eq_true p4
                        replace q4 := eq_true q4
                        go_wp2
                        go_roundg k1
                        case measure => have := HK1.out; omega
                        case rel => exact ⟨(wrap64 (x3_1 + 1)), (by first | rfl | (simp; done) | (simp [*]; done)), H', ⟨by have := HK1.out; omega⟩, by repeat (first | exact Drawn0.refl _ | apply Drawn0.step)⟩
                      · rw [if_neg c24] at H
                        have c24b0 : ((bt a0 x3_1) == 95) = false := beq_eq_false_iff_ne.mpr c24
                        have c24b1 : ((bt a0 x3_1) != 95) = true := bne_iff_ne.mpr c24
                        obtain rfl := Option.some.inj H
                        have p4 : 0 ≤ (x3_1 : Int) := of_decide_eq_true (by first | (with_reducible assumption) | assumption)
                        have q4 : x3_1 < (a0.size : Int) := of_decide_eq_true (by first | (with_reducible assumption) | assumption)
                        have hx4 := bt_at a0 x3_1
                        replace p4 := eq_true p4
                        replace q4 := eq_true q4
                        go_wp2
                        go_ret
                        exact ⟨by first | rfl | (simp; done) | (simp [*]; done), by repeat (first | exact Drawn0.refl _ | apply Drawn0.step)⟩
          · rw [if_neg c5] at H
            have c5b0 : decide (97 ≤ (bt a0 x3_1)) = false := decide_eq_false c5
            clear c5
            by_cases c25 : (bt a0 x3_1) ≥ 65
            · rw [if_pos c25] at H
              have c25b0 : decide (65 ≤ (bt a0 x3_1)) = true := decide_eq_true c25
              clear c25
              by_cases c26 : (bt a0 x3_1) ≤ 90
              · rw [if_pos c26] at H
                have c26b0 : decide ((bt a0 x3_1) ≤ 90) = true := decide_eq_true c26
                clear c26
                have H' := Aside0.mk H
                clear H
                have p4 : 0 ≤ (x3_1 : Int) := of_decide_eq_true (by first | (with_reducible assumption) | assumption)
                have q4 : x3_1 < (a0.size : Int) := of_decide_eq_true (by first | (with_reducible assumption) | assumption)
                have hx4 := bt_at a0 x3_1
                replace p4 := eq_true p4
                replace q4 := eq_true q4
                go_wp2
                go_roundg k1
                case measure => have := HK1.out; omega
                case rel => exact ⟨(wrap64 (x3_1 + 1)), (by first | rfl | (simp; done) | (simp [*]; done)), H', ⟨by have := HK1.out; omega⟩, by repeat (first | exact Drawn0.refl _ | apply Drawn0.step)⟩
              · rw [if_neg c26] at H
                have c26b0 : decide ((bt a0 x3_1) ≤ 90) = false := decide_eq_false c26
                clear c26
                by_cases c27 : (bt a0 x3_1) ≥ 48
                · rw [if_pos c27] at H
                  have c27b0 : decide (48 ≤ (bt a0 x3_1)) = true := decide_eq_true c27
                  clear c27
                  by_cases c28 : (bt a0 x3_1) ≤ 57
                  · rw [if_pos c28] at H
                    have c28b0 : decide ((bt a0 x3_1) ≤ 57) = true := decide_eq_true c28
                    clear c28
                    have H' := Aside0.mk H
                    clear H
                    have p4 : 0 ≤ (x3_1 : Int) := of_decide_eq_true (by first | (with_reducible assumption) | assumption)
                    have q4 : x3_1 < (a0.size : Int) := of_decide_eq_true (by first | (with_reducible assumption) | assumption)
                    have hx4 := bt_at a0 x3_1
                    replace p4 := eq_true p4
                    replace q4 := eq_true q4
                    go_wp2
                    go_roundg k1
                    case measure => have := HK1.out; omega
                    case rel => exact ⟨(wrap64 (x3_1 + 1)), (by first | rfl | (simp; done) | (simp [*]; done)), H', ⟨by have := HK1.out; omega⟩, by repeat (first | exact Drawn0.refl _ | apply Drawn0.step)⟩
                  · rw [if_neg c28] at H
                    have c28b0 : decide ((bt a0 x3_1) ≤ 57) = false := decide_eq_false c28
                    clear c28
                    by_cases c29 : (bt a0 x3_1) = 46
                    · rw [if_pos c29] at H
                      have c29b0 : ((bt a0 x3_1) == 46) = true := beq_iff_eq.mpr c29
                      have c29b1 : ((bt a0 x3_1) != 46) = false := bne_eq_false_iff_eq.mpr c29
                      clear c29
                      have H' := Aside0.mk H
                      clear H
                      have p4 : 0 ≤ (x3_1 : Int) := of_decide_eq_true (by first | (with_reducible assumption) | assumption)
                      have q4 : x3_1 < (a0.size : Int) := of_decide_eq_true (by first | (with_reducible assumption) | assumption)
                      have hx4 := bt_at a0 x3_1
                      replace p4 := eq_true p4
                      replace q4 := eq_true q4
                      go_wp2
                      go_roundg k1
                      case measure => have := HK1.out; omega
                      case rel => exact ⟨(wrap64 (x3_1 + 1)), (by first | rfl | (simp; done) | (simp [*]; done)), H', ⟨by have := HK1.out; omega⟩, by repeat (first | exact Drawn0.refl _ | apply Drawn0.step)⟩
                    · rw [if_neg c29] at H
                      have c29b0 : ((bt a0 x3_1) == 46) = false := beq_eq_false_iff_ne.mpr c29
                      have c29b1 : ((bt a0 x3_1) != 46) = true := bne_iff_ne.mpr c29
                      by_cases c30 : (bt a0 x3_1) = 45
                      · rw [if_pos c30] at H
                        have c30b0 : ((bt a0 x3_1) == 45) = true := beq_iff_eq.mpr c30
                        have c30b1 : ((bt a0 x3_1) != 45) = false := bne_eq_false_iff_eq.mpr c30
                        clear c30
                        have H' := Aside0.mk H
                        clear H
                        have p4 : 0 ≤ (x3_1 : Int) := of_decide_eq_true (by first | (with_reducible assumption) | assumption)
                        have q4 : x3_1 < (a0.size : Int) := of_decide_eq_true (by first | (with_reducible assumption) | assumption)
                        have hx4 := bt_at a0 x3_1
                        replace p4 := eq_true p4
                        replace q4 := eq_true q4
                        go_wp2
                        go_roundg k1
                        case measure => have := HK1.out; omega
                        case rel => exact ⟨(wrap64 (x3_1 + 1)), (by first | rfl | (simp; done) | (simp [*]; done)), H', ⟨by have := HK1.out; omega⟩, by repeat (first | exact Drawn0.refl _ | apply Drawn0.step)⟩
                      · rw [if_neg c30] at H
                        have c30b0 : ((bt a0 x3_1) == 45) = false := beq_eq_false_iff_ne.mpr c30
                        have c30b1 : ((bt a0 x3_1) != 45) = true := bne_iff_ne.mpr c30
                        by_cases c31 : ((bt a0 x3_1) = 95)
                        · rw [if_pos c31] at H
                          have c31b0 : ((bt a0 x3_1) == 95) = true := beq_iff_eq.mpr c31
                          have c31b1 : ((bt a0 x3_1) != 95) = false := bne_eq_false_iff_eq.mpr c31
                          clear c31
                          have H' := Aside0.mk H
                          clear H
                          have p4 : 0 ≤ (x3_1 : Int) := of_decide_eq_true (by first | (with_reducible assumption) | assumption)
                          have q4 : x3_1 < (a0.size : Int) := of_decide_eq_true (by first | (with_reducible assumption) | assumption)
                          have hx4 := bt_at a0 x3_1
                          replace p4 := eq_true p4
                          replace q4 := eq_true q4
                          go_wp2
                          go_roundg k1
                          case measure => have := HK1.out; omega
                          case rel => exact ⟨(wrap64 (x3_1 + 1)), (by first | rfl | (simp; done) | (simp [*]; done)), H', ⟨by have := HK1.out; omega⟩, by repeat (first | exact Drawn0.refl _ | apply Drawn0.step)⟩
                        · rw [if_neg c31] at H
                          have c31b0 : ((bt a0 x3_1) == 95) = false := beq_eq_false_iff_ne.mpr c31
                          have c31b1 : ((bt a0 x3_1) != 95) = true := bne_iff_ne.mpr c31
                          obtain rfl := Option.some.inj H
                          have p4 : 0 ≤ (x3_1 : Int) := of_decide_eq_true (by first | (with_reducible assumption) | assumption)
                          have q4 : x3_1 < (a0.size : Int) := of_decide_eq_true (by first | (with_reducible assumption) | assumption)
                          have hx4 := bt_at a0 x3_1
                          replace p4 := eq_true p4
                          replace q4 := eq_true q4
                          go_wp2
                          go_ret
                          exact ⟨by first | rfl | (simp; done) | (simp [*]; done), by repeat (first | exact Drawn0.refl _ | apply Drawn0.step)⟩
                · rw [if_neg c27] at H
                  have c27b0 : decide (48 ≤ (bt a0 x3_1)) = false := decide_eq_false c27
                  clear c27
                  by_cases c32 : (bt a0 x3_1) = 46
                  · rw [if_pos c32] at H
                    have c32b0 : ((bt a0 x3_1) == 46) = true := beq_iff_eq.mpr c32
                    have c32b1 : ((bt a0 x3_1) != 46) = false := bne_eq_false_iff_eq.mpr c32
                    clear c32
                    have H' := Aside0.mk H
                    clear H
                    have p4 : 0 ≤ (x3_1 : Int) := of_decide_eq_true (by first | (with_reducible assumption) | assumption)
                    have q4 : x3_1 < (a0.size : Int) := of_decide_eq_true (by first | (with_reducible assumption) | assumption)
                    have hx4 := bt_at a0 x3_1
                    replace p4 := eq_true p4
                    replace q4 := eq_true q4
                    go_wp2
                    go_roundg k1
                    case measure => have := HK1.out; omega
                    case rel => exact ⟨(wrap64 (x3_1 + 1)), (by first | rfl | (simp; done) | (simp [*]; done)), H', ⟨by have := HK1.out; omega⟩, by repeat (first | exact Drawn0.refl _ | apply Drawn0.step)⟩
                  · rw [if_neg c32] at H
                    have c32b0 : ((bt a0 x3_1) == 46) = false := beq_eq_false_iff_ne.mpr c32
                    have c32b1 : ((bt a0 x3_1) != 46) = true := bne_iff_ne.mpr c32
                    by_cases c33 : (bt a0 x3_1) = 45
                    · rw [if_pos c33] at H
                      have c33b0 : ((bt a0 x3_1) == 45) = true := beq_iff_eq.mpr c33
                      have c33b1 : ((bt a0 x3_1) != 45) = false := bne_eq_false_iff_eq.mpr c33
                      clear c33
                      have H' := Aside0.mk H
                      clear H
                      have p4 : 0 ≤ (x3_1 : Int) := of_decide_eq_true (by first | (with_reducible assumption) | assumption)
                      have q4 : x3_1 < (a0.size : Int) := of_decide_eq_true (by first | (with_reducible assumption) | assumption)
                      have hx4 := bt_at a0 x3_1
                      replace p4 := eq_true p4
                      replace q4 := eq_true q4
                      go_wp2
                      go_roundg k1
                      case measure => have := HK1.out; omega
                      case rel => exact ⟨(wrap64 (x3_1 + 1)), (by first | rfl | (simp; done) | (simp [*]; done)), H', ⟨by have := HK1.out; omega⟩, by repeat (first | exact Drawn0.refl _ | apply Drawn0.step)⟩
                    · rw [if_neg c33] at H
                      have c33b0 : ((bt a0 x3_1) == 45) = false := beq_eq_false_iff_ne.mpr c33
                      have c33b1 : ((bt a0 x3_1) != 45) = true := bne_iff_ne.mpr c33
                      by_cases c34 : ((bt a0 x3_1) = 95)
                      · rw [if_pos c34] at H
                        have c34b0 : ((bt a0 x3_1) == 95) = true := beq_iff_eq.mpr c34
                        have c34b1 : ((bt a0 x3_1) != 95) = false := bne_eq_false_iff_eq.mpr c34
                        clear c34
                        have H' := Aside0.mk H
                        clear H
                        have p4 : 0 ≤ (x3_1 : Int) := of_decide_eq_true (by first | (with_reducible assumption) | assumption)
                        have q4 : x3_1 < (a0.size : Int) := of_decide_eq_true (by first | (with_reducible assumption) | assumption)
                        have hx4 := bt_at a0 x3_1
                        replace p4 := eq_true p4
                        replace q4 := eq_true q4
                        go_wp2
                        go_roundg k1
                        case measure => have := HK1.out; omega
                        case rel => exact ⟨(wrap64 (x3_1 + 1)), (by first | rfl | (simp; done) | (simp [*]; done)), H', ⟨by have := HK1.out; omega⟩, by repeat (first | exact Drawn0.refl _ | apply Drawn0.step)⟩
                      · rw [if_neg c34] at H
                        have c34b0 : ((bt a0 x3_1) == 95) = false := beq_eq_false_iff_ne.mpr c34
                        have c34b1 : ((bt a0 x3_1) != 95) = true := bne_iff_ne.mpr c34
                        obtain rfl := Option.some.inj H
                        have p4 : 0 ≤ (x3_1 : Int) := of_decide_eq_true (by first | (with_reducible assumption) | assumption)
                        have q4 : x3_1 < (a0.size : Int) := of_decide_eq_true (by first | (with_reducible assumption) | assumption)
                        have hx4 := bt_at a0 x3_1
                        replace p4 := eq_true p4
                        replace q4 := eq_true q4
                        go_wp2
                        go_ret
                        exact ⟨by first | rfl | (simp; done) | (simp [*]; done), by repeat (first | exact Drawn0.refl _ | apply Drawn0.step)⟩
            · rw [if_neg c25] at H
              have c25b0 : decide (65 ≤ (bt a0 x3_1)) = false := decide_eq_false c25
              clear c25
              by_cases c35 : (bt a0 x3_1) ≥ 48
              · rw [if_pos c35] at H
                have c35b0 : decide (48 ≤ (bt a0 x3_1)) = true := decide_eq_true c35
                clear c35
                by_cases c36 : (bt a0 x3_1) ≤ 57
                · rw [if_pos c36] at H
                  have c36b0 : decide ((bt a0 x3_1) ≤ 57) = true := decide_eq_true c36
                  clear c36
                  have H' := Aside0.mk H
                  clear H
                  have p4 : 0 ≤ (x3_1 : Int) := of_decide_eq_true (by first | (with_reducible assumption) | assumption)
                  have q4 : x3_1 < (a0.size : Int) := of_decide_eq_true (by first | (with_reducible assumption) | assumption)
                  have hx4 := bt_at a0 x3_1
                  replace p4 := eq_true p4
                  replace q4 := eq_true q4
                  go_wp2
                  go_roundg k1
                  case measure => have := HK1.out; omega
                  case rel => exact ⟨(wrap64 (x3_1 + 1)), (by first | rfl | (simp; done) | (simp [*]; done)), H', ⟨by have := HK1.out; omega⟩, by repeat (first | exact Drawn0.refl _ | apply Drawn0.step)⟩
                · rw [if_neg c36] at H
                  have c36b0 : decide ((bt a0 x3_1) ≤ 57) = false := decide_eq_false c36
                  clear c36
                  by_cases c37 : (bt a0 x3_1) = 46
                  · rw [if_pos c37] at H
                    have c37b0 : ((bt a0 x3_1) == 46) = true := beq_iff_eq.mpr c37
                    have c37b1 : ((bt a0 x3_1) != 46) = false := bne_eq_false_iff_eq.mpr c37
                    clear c37
                    have H' := Aside0.mk H
                    clear H
                    have p4 : 0 ≤ (x3_1 : Int) := of_decide_eq_true (by first | (with_reducible assumption) | assumption)
                    have q4 : x3_1 < (a0.size : Int) := of_decide_eq_true (by first | (with_reducible assumption) | assumption)
                    have hx4 := bt_at a0 x3_1
                    replace p4 := eq_true p4
                    replace q4 := eq_true q4
                    go_wp2
                    go_roundg k1
                    case measure => have := HK1.out; omega
                    case rel => exact ⟨(wrap64 (x3_1 + 1)), (by first | rfl | (simp; done) | (simp [*]; done)), H', ⟨by have := HK1.out; omega⟩, by repeat (first | exact Drawn0.refl _ | apply Drawn0.step)⟩
                  · rw [if_neg c37] at H
                    have c37b0 : ((bt a0 x3_1) == 46) = false := beq_eq_false_iff_ne.mpr c37
                    have c37b1 : ((bt a0 x3_1) != 46) = true := bne_iff_ne.mpr c37
                    by_cases c38 : (bt a0 x3_1) = 45
                    · rw [if_pos c38] at H
                      have c38b0 : ((bt a0 x3_1) == 45) = true := beq_iff_eq.mpr c38
                      have c38b1 : ((bt a0 x3_1) != 45) = false := bne_eq_false_iff_eq.mpr c38
                      clear c38
                      have H' := Aside0.mk H
                      clear H
                      have p4 : 0 ≤ (x3_1 : Int) := of_decide_eq_true (by first | (with_reducible assumption) | assumption)
                      have q4 : x3_1 < (a0.size : Int) := of_decide_eq_true (by first | (with_reducible assumption) | assumption)
                      have hx4 := bt_at a0 x3_1
                      replace p4 := eq_true p4
                      replace q4 := eq_true q4
                      go_wp2
                      go_roundg k1
                      case measure => have := HK1.out; omega
                      case rel => exact ⟨(wrap64 (x3_1 + 1)), (by first | rfl | (simp; done) | (simp [*]; done)), H', ⟨by have := HK1.out; omega⟩, by repeat (first | exact Drawn0.refl _ | apply Drawn0.step)⟩
                    · rw [if_neg c38] at H
                      have c38b0 : ((bt a0 x3_1) == 45) = false := beq_eq_false_iff_ne.mpr c38
                      have c38b1 : ((bt a0 x3_1) != 45) = true := bne_iff_ne.mpr c38
                      by_cases c39 : ((bt a0 x3_1) = 95)
                      · rw [if_pos c39] at H
                        have c39b0 : ((bt a0 x3_1) == 95) = true := beq_iff_eq.mpr c39
                        have c39b1 : ((bt a0 x3_1) != 95) = false := bne_eq_false_iff_eq.mpr c39
                        clear c39
                        have H' := Aside0.mk H
                        clear H
                        have p4 : 0 ≤ (x3_1 : Int) := of_decide_eq_true (by first | (with_reducible assumption) | assumption)
                        have q4 : x3_1 < (a0.size : Int) := of_decide_eq_true (by first | (with_reducible assumption) | assumption)
                        have hx4 := bt_at a0 x3_1
                        replace p4 := eq_true p4
                        replace q4 := eq_true q4
                        go_wp2
                        go_roundg k1
                        case measure => have := HK1.out; omega
                        case rel => exact ⟨(wrap64 (x3_1 + 1)), (by first | rfl | (simp; done) | (simp [*]; done)), H', ⟨by have := HK1.out; omega⟩, by repeat (first | exact Drawn0.refl _ | apply Drawn0.step)⟩
                      · rw [if_neg c39] at H
                        have c39b0 : ((bt a0 x3_1) == 95) = false := beq_eq_false_iff_ne.mpr c39
                        have c39b1 : ((bt a0 x3_1) != 95) = true := bne_iff_ne.mpr c39
                        obtain rfl := Option.some.inj H
                        have p4 : 0 ≤ (x3_1 : Int) := of_decide_eq_true (by first | (with_reducible assumption) | assumption)
                        have q4 : x3_1 < (a0.size : Int) := of_decide_eq_true (by first | (with_reducible assumption) | assumption)
                        have hx4 := bt_at a0 x3_1
                        replace p4 := eq_true p4
                        replace q4 := eq_true q4
                        go_wp2
                        go_ret
                        exact ⟨by first | rfl | (simp; done) | (simp [*]; done), by repeat (first | exact Drawn0.refl _ | apply Drawn0.step)⟩
              · rw [if_neg c35] at H
                have c35b0 : decide (48 ≤ (bt a0 x3_1)) = false := decide_eq_false c35
                clear c35
                by_cases c40 : (bt a0 x3_1) = 46
                · rw [if_pos c40] at H
                  have c40b0 : ((bt a0 x3_1) == 46) = true := beq_iff_eq.mpr c40
                  have c40b1 : ((bt a0 x3_1) != 46) = false := bne_eq_false_iff_eq.mpr c40
                  clear c40
                  have H' := Aside0.mk H
                  clear H
                  have p4 : 0 ≤ (x3_1 : Int) := of_decide_eq_true (by first | (with_reducible assumption) | assumption)
                  have q4 : x3_1 < (a0.size : Int) := of_decide_eq_true (by first | (with_reducible assumption) | assumption)
                  have hx4 := bt_at a0 x3_1
                  replace p4 := eq_true p4
                  replace q4 := eq_true q4
                  go_wp2
                  go_roundg k1
                  case measure => have := HK1.out; omega
                  case rel => exact ⟨(wrap64 (x3_1 + 1)), (by first | rfl | (simp; done) | (simp [*]; done)), H', ⟨by have := HK1.out; omega⟩, by repeat (first | exact Drawn0.refl _ | apply Drawn0.step)⟩
                · rw [if_neg c40] at H
                  have c40b0 : ((bt a0 x3_1) == 46) = false := beq_eq_false_iff_ne.mpr c40
                  have c40b1 : ((bt a0 x3_1) != 46) = true := bne_iff_ne.mpr c40
                  by_cases c41 : (bt a0 x3_1) = 45
                  · rw [if_pos c41] at H
                    have c41b0 : ((bt a0 x3_1) == 45) = true := beq_iff_eq.mpr c41
                    have c41b1 : ((bt a0 x3_1) != 45) = false := bne_eq_false_iff_eq.mpr c41
                    clear c41
                    have H' := Aside0.mk H
                    clear H
                    have p4 : 0 ≤ (x3_1 : Int) := of_decide_eq_true (by first | (with_reducible assumption) | assumption)
                    have q4 : x3_1 < (a0.size : Int) := of_decide_eq_true (by first | (with_reducible assumption) | assumption)
                    have hx4 := bt_at a0 x3_1
                    replace p4 := eq_true p4
                    replace q4 := eq_true q4
                    go_wp2
                    go_roundg k1
                    case measure => have := HK1.out; omega
                    case rel => exact ⟨(wrap64 (x3_1 + 1)), (by first | rfl | (simp; done) | (simp [*]; done)), H', ⟨by have := HK1.out; omega⟩, by repeat (first | exact Drawn0.refl _ | apply Drawn0.step)⟩
                  · rw [if_neg c41] at H
                    have c41b0 : ((bt a0 x3_1) == 45) = false := beq_eq_false_iff_ne.mpr c41
                    have c41b1 : ((bt a0 x3_1) != 45) = true := bne_iff_ne.mpr c41
                    by_cases c42 : ((bt a0 x3_1) = 95)
                    · rw [if_pos c42] at H
                      have c42b0 : ((bt a0 x3_1) == 95) = true := beq_iff_eq.mpr c42
                      have c42b1 : ((bt a0 x3_1) != 95) = false := bne_eq_false_iff_eq.mpr c42
                      clear c42
                      have H' := Aside0.mk H
                      clear H
                      have p4 : 0 ≤ (x3_1 : Int) := of_decide_eq_true (by first | (with_reducible assumption) | assumption)
                      have q4 : x3_1 < (a0.size : Int) := of_decide_eq_true (by first | (with_reducible assumption) | assumption)
                      have hx4 := bt_at a0 x3_1
                      replace p4 := eq_true p4
                      replace q4 := eq_true q4
                      go_wp2
                      go_roundg k1
                      case measure => have := HK1.out; omega
                      case rel => exact ⟨(wrap64 (x3_1 + 1)), (by first | rfl | (simp; done) | (simp [*]; done)), H', ⟨by have := HK1.out; omega⟩, by repeat (first | exact Drawn0.refl _ | apply Drawn0.step)⟩
                    · rw [if_neg c42] at H
                      have c42b0 : ((bt a0 x3_1) == 95) = false := beq_eq_false_iff_ne.mpr c42
                      have c42b1 : ((bt a0 x3_1) != 95) = true := bne_iff_ne.mpr c42
                      obtain rfl := Option.some.inj H
                      have p4 : 0 ≤ (x3_1 : Int) := of_decide_eq_true (by first | (with_reducible assumption) | assumption)
                      have q4 : x3_1 < (a0.size : Int) := of_decide_eq_true (by first | (with_reducible assumption) | assumption)
                      have hx4 := bt_at a0 x3_1
                      replace p4 := eq_true p4
                      replace q4 := eq_true q4
                      go_wp2
                      go_ret
                      exact ⟨by first | rfl | (simp; done) | (simp [*]; done), by repeat (first | exact Drawn0.refl _ | apply Drawn0.step)⟩
        · rw [if_neg c3] at H
          exact absurd H (by simp)
      · rw [if_neg c2] at H
        have c2b0 : decide (x3_1 < (a0.size : Int)) = false := decide_eq_false c2
        clear c2
        by_cases c43 : (a0.size : Int) ≥ 1
        · rw [if_pos c43] at H
          have c43b0 : decide (1 ≤ (a0.size : Int)) = true := decide_eq_true c43
          have c43b1 : decide (1 ≤ a0.size) = true := decide_eq_true (by omega)
          clear c43
          obtain rfl := Option.some.inj H
          go_wp2
          go_ret
          exact ⟨by first | rfl | (simp; done) | (simp [*]; done), by repeat (first | exact Drawn0.refl _ | apply Drawn0.step)⟩
        · rw [if_neg c43] at H
          have c43b0 : decide (1 ≤ (a0.size : Int)) = false := decide_eq_false c43
          have c43b1 : decide (1 ≤ a0.size) = false := decide_eq_false (by omega)
          clear c43
          obtain rfl := Option.some.inj H
          go_wp2
          go_ret
          exact ⟨by first | rfl | (simp; done) | (simp [*]; done), by repeat (first | exact Drawn0.refl _ | apply Drawn0.step)⟩
end Go.Proofs.YtcdopgkkieenjaaDoor.V
end

-- HBase
section
/- Small laws of our own, over the words. -/
namespace Go.Proofs.YtcdopgkkieenjaaDoor.V
open Go.RowKit Go.Proofs.YtcdopgkkieenjaaDoorW.PrintWords Go.Proofs.YtcdopgkkieenjaaDoorW.PrintLast Go.Proofs.YtcdopgkkieenjaaDoorW.PrintMore

theorem wrap_u64 (n : Int) (h0 : 0 ≤ n) (h : n < 18446744073709551616) : IntKind.u64.wrap n = n := by rw [IntKind.wrap_u64]; omega
theorem wrap64_id (n : Int) (h0 : -9223372036854775808 ≤ n) (h : n < 9223372036854775808) : wrap64 n = n := by unfold wrap64; omega
end Go.Proofs.YtcdopgkkieenjaaDoor.V
end

-- INames
section
/- Names: which may be. -/
namespace Go.Proofs.YtcdopgkkieenjaaDoor.V
open Go.RowKit Go.Proofs.YtcdopgkkieenjaaDoorW.PrintWords Go.Proofs.YtcdopgkkieenjaaDoorW.PrintLast Go.Proofs.YtcdopgkkieenjaaDoorW.PrintMore
set_option linter.unusedVariables false
set_option linter.unusedSimpArgs false

def okSign (c : Int) : Bool := (decide (97 ≤ c) && decide (c ≤ 122)) || (decide (65 ≤ c) && decide (c ≤ 90)) || (decide (48 ≤ c) && decide (c ≤ 57)) || decide (c = 46) || decide (c = 45) || decide (c = 95)
def allFrom (s : ByteArray) (i : Nat) : Bool := (s.data.toList.drop i).all fun b => okSign (b.toNat : Int)
/-- May a name be? -/
def rightName (s : ByteArray) : Bool := allFrom s 0 && decide (0 < s.size) && decide (s.size ≤ 64)
theorem nmay_f (c : Int) (k : Nat) (hk : 2 < k) : names_may.f k c = some (okSign c) := by
  obtain ⟨k, rfl⟩ : ∃ m, k = m + 1 + 1 := ⟨k - 2, by omega⟩
  unfold names_may.f okSign
  simp only [names_may.j0, names_may.j1]
  repeat' split
  all_goals first | (simp_all; done) | (simp_all; omega) | (exfalso; simp_all; omega)
theorem nmay_any (c : Int) (w : World) : Calls Tryd.prog 91 #[.int .i32 c] w fun e w' => e = .returned (.bool (okSign c)) ∧ Drawn0 w w' :=
  names_may.calls 3 c _ w (nmay_f c 3 (by omega))
theorem bt_get (s : ByteArray) (i : Nat) (h : i < s.size) : bt s (i : Int) = (s[i].toNat : Int) := by simp [bt, h]
theorem allFrom_step (s : ByteArray) (i : Nat) (h : i < s.size) : allFrom s i = (okSign (bt s (i : Int)) && allFrom s (i + 1)) := by
  have h' : i < s.data.toList.length := by simpa using h
  unfold allFrom
  rw [List.drop_eq_getElem_cons h', List.all_cons, bt_get s i h]
  rfl
theorem allFrom_end (s : ByteArray) (i : Nat) (h : s.size ≤ i) : allFrom s i = true := by
  unfold allFrom
  rw [List.drop_of_length_le (by simpa using h)]
  rfl
theorem toList_nil (s : ByteArray) : s.data.toList = [] ↔ s.size = 0 := by
  constructor
  · intro h
    have := congrArg List.length h
    simpa using this
  · intro h
    exact List.eq_nil_of_length_eq_zero (by simpa using h)
theorem r12_step (k : Nat) (s : ByteArray) (i : Nat) (h : i < s.size) (hm : s.size ≤ 9223372036854775807) : virgateref12_Right.l0 (k + 1) s (i : Int) = if okSign (bt s (i : Int)) then virgateref12_Right.l0 k s ((i + 1 : Nat) : Int) else some false := by
  simp only [virgateref12_Right.l0]
  rw [if_pos (show (i : Int) < (s.size : Int) by omega), if_pos (show (0 : Int) ≤ (i : Int) by omega), show wrap64 ((i : Int) + 1) = ((i + 1 : Nat) : Int) by unfold wrap64; omega]
  generalize virgateref12_Right.l0 k s ((i + 1 : Nat) : Int) = A
  generalize bt s (i : Int) = c
  unfold okSign
  repeat' split
  all_goals first | rfl | (exfalso; simp_all; omega) | (simp_all; done) | (simp_all; omega)
theorem r12_l0 (s : ByteArray) (hm : s.size ≤ 9223372036854775807) : ∀ (d k i : Nat), i + d = s.size → d < k → virgateref12_Right.l0 k s (i : Int) = some (allFrom s i && decide (0 < s.size) && decide (s.size ≤ 64)) := by
  intro d
  induction d with
  | zero =>
    intro k i hi hk
    obtain ⟨k, rfl⟩ : ∃ m, k = m + 1 := ⟨k - 1, by omega⟩
    simp only [virgateref12_Right.l0]
    rw [if_neg (by omega), allFrom_end s i (by omega)]
    by_cases h1 : 0 < s.size
    · rw [if_pos (by omega)]
      simp [h1]
      omega
    · rw [if_neg (by omega)]
      simp [h1]
  | succ d ih =>
    intro k i hi hk
    obtain ⟨k, rfl⟩ : ∃ m, k = m + 1 := ⟨k - 1, by omega⟩
    rw [r12_step k s i (by omega) hm, allFrom_step s i (by omega)]
    by_cases h : okSign (bt s (i : Int)) = true
    · rw [if_pos h, ih k (i + 1) (by omega) (by omega), h, Bool.true_and]
    · have h' : okSign (bt s (i : Int)) = false := by simpa using h
      rw [if_neg h, h']
      simp
theorem r12_f (s : ByteArray) (hm : s.size ≤ 9223372036854775807) (k : Nat) (hk : s.size < k) : virgateref12_Right.f k s = some (rightName s) := r12_l0 s hm s.size k 0 (by omega) hk
theorem iterPos_drewN (w : World) (s : ByteArray) (p n : Nat) : ((w.iter s p).drewN n).iterPos w.heap.size = p := World.iterPos_iter (w.drewN n) s p
theorem below_iter {w : World} {s : ByteArray} {p : Nat} (h : Below w.heap.size w w) : Below w.heap.size w (w.iter s p) := below_alloc h _
theorem okSign_high (c : Int) (h : 128 ≤ c) : okSign c = false := by
  unfold okSign
  simp
  omega
theorem toList_nil' (s : ByteArray) : s.toList = [] ↔ s.size = 0 := by rw [ByteArray.toList_eq]; exact toList_nil s
set_option maxHeartbeats 2000000 in
set_option maxRecDepth 100000 in
theorem right_any (s : ByteArray) (w : World) : Calls Tryd.prog 73 #[.string s] w fun e w' => e = .returned (.bool (rightName s)) ∧ Below w.heap.size w w' := by
  go_enter Tryd.func73, Tryd.ntmps73
  go_wp2
  go_loopw [4] (fun c W => ∃ pos nd : Nat, W = (w.iter s pos).drewN nd ∧ pos ≤ s.size ∧ Aside0 (allFrom s 0 = allFrom s pos)) (fun _ W => s.size - W.iterPos w.heap.size)
  case atStart => exact ⟨0, 0, rfl, by omega, ⟨rfl⟩⟩
  case round =>
    obtain ⟨pos, nd, rfl, hpos, HA⟩ := hrel
    by_cases hp : pos < s.size
    · have hnx : ∀ ty, (Instr.next (.pointer (some ⟨w.heap.size, 0, none⟩)) true ty).run Tryd.prog ((w.iter s pos).drewN nd) = .ok (.tuple #[.bool true, .int .i64 pos, .int .i32 (Utf8.decode s pos).1]) ((w.iter s (pos + (Utf8.decode s pos).2)).drewN nd) := fun ty => run_next_any (w.drewN nd) s pos ty hp
      by_cases ha : (s[pos]'hp).toNat < 128
      · have hd := decode_ascii s pos hp ha
        rw [hd] at hnx
        have hbt := bt_get s pos hp
        have hst := allFrom_step s pos hp
        cases hok : okSign (bt s (pos : Int)) with
        | true =>
          have HA2 := Aside0.mk (show allFrom s 0 = allFrom s (pos + 1) by rw [HA.out, hst, hok, Bool.true_and])
          rw [hbt] at hok
          have HOK := Aside0.mk hok
          clear hok hst hbt hd ha
          go_wp2_with (go_at_call 91; refine (nmay_any _ _).mono ?_; rintro e w' ⟨rfl, ⟨nd2, rfl⟩⟩; rw [HOK.out])
          go_roundw
          case rel => exact ⟨pos + 1, nd + nd2, rfl, by omega, HA2⟩
          case measure => rw [iterPos_drewN, iterPos_drewN]; omega
        | false =>
          have HF := Aside0.mk (show rightName s = false by unfold rightName; rw [HA.out, hst, hok]; rfl)
          rw [hbt] at hok
          have HOK := Aside0.mk hok
          clear hok hst hbt hd ha
          go_wp2_with (go_at_call 91; refine (nmay_any _ _).mono ?_; rintro e w' ⟨rfl, ⟨nd2, rfl⟩⟩; rw [HOK.out])
          go_ret
          exact ⟨by rw [HF.out]; rfl, by repeat (first | exact Below.refl _ _ | apply pw_below_drewN | apply below_iter)⟩
      · have hd := decode_high s pos hp (by omega)
        have hst := allFrom_step s pos hp
        have hok : okSign (bt s (pos : Int)) = false := okSign_high _ (by rw [bt_get s pos hp]; omega)
        have HF := Aside0.mk (show rightName s = false by unfold rightName; rw [HA.out, hst, hok]; rfl)
        have HOK := Aside0.mk (okSign_high ((Utf8.decode s pos).1 : Int) (by omega))
        generalize Utf8.decode s pos = D at hnx HOK
        clear hok hst hd ha
        go_wp2_with (go_at_call 91; refine (nmay_any _ _).mono ?_; rintro e w' ⟨rfl, ⟨nd2, rfl⟩⟩; rw [HOK.out])
        go_ret
        exact ⟨by rw [HF.out]; rfl, by repeat (first | exact Below.refl _ _ | apply pw_below_drewN | apply below_iter)⟩
    · have hnx : ∀ ty, (Instr.next (.pointer (some ⟨w.heap.size, 0, none⟩)) true ty).run Tryd.prog ((w.iter s pos).drewN nd) = .ok (.tuple #[.bool false]) ((w.iter s pos).drewN nd) := fun ty => run_next_end (w.drewN nd) s pos ty hp
      have hall : allFrom s 0 = true := by rw [HA.out, allFrom_end s pos (by omega)]
      by_cases h0 : s.size = 0
      · have hn : s.toList = [] := (toList_nil' s).2 h0
        have hn2 : (!s.toList.isEmpty) = false := by rw [hn]; rfl
        have HF := Aside0.mk (show rightName s = false by unfold rightName; rw [h0]; simp)
        clear h0 hall HA hpos hp
        go_wp2
        go_ret
        exact ⟨by rw [HF.out]; rfl, by repeat (first | exact Below.refl _ _ | apply pw_below_drewN | apply below_iter)⟩
      · have hn : ¬ s.toList = [] := fun h => h0 ((toList_nil' s).1 h)
        have hn2 : (!s.toList.isEmpty) = true := by cases hh : s.toList <;> simp_all
        have HF := Aside0.mk (show rightName s = decide ((s.size : Int) ≤ 64) by
          unfold rightName
          rw [hall, decide_eq_true (show 0 < s.size by omega)]
          simp only [Bool.true_and]
          exact decide_eq_decide.2 (by omega))
        clear h0 hall HA hpos hp
        go_wp2
        go_ret
        exact ⟨by rw [HF.out]; rfl, by repeat (first | exact Below.refl _ _ | apply pw_below_drewN | apply below_iter)⟩
/-- In the print's form. -/
def names_Right.f (a0 : ByteArray) : Option Bool := some (rightName a0)
theorem names_Right.calls (a0 : ByteArray) (r : Bool) (w : World) (h : names_Right.f a0 = some r) : Calls Tryd.prog 73 #[.string a0] w fun e w' => e = .returned (.bool r) ∧ Below w.heap.size w w' := by
  obtain rfl := Option.some.inj h
  exact right_any a0 w
end Go.Proofs.YtcdopgkkieenjaaDoor.V
end

-- VFIpDigits
section
-- PRINTED by print.py (a twelfth state) out of the translation. Not trusted: Lean checks it.
namespace Go.Proofs.YtcdopgkkieenjaaDoor.V
open Go.RowKit Go.Proofs.YtcdopgkkieenjaaDoorW.PrintWords Go.Proofs.YtcdopgkkieenjaaDoorW.PrintLast Go.Proofs.YtcdopgkkieenjaaDoorW.PrintMore
attribute [local go_sem] max2_int min2_int max_two min_two max_three min_three max_four min_four   -- for this text's walks alone
set_option linter.unusedVariables false
set_option linter.unusedSimpArgs false

/-! ### ip_digits: function 74 -/
def ip_digits.l0 : Nat → Int → ByteArray → Bool → Option (ByteArray)
  | 0, _, _, _ => none
  | k + 1, x0, x3, x4 => if x4 = true then ((some (([(48 + (Int.tmod x0 10)) % 256] : List Int) : List Int)).bind fun y74101 => (if (strOfNums y74101).size + x3.size ≤ 9223372036854775807 then (ip_digits.l0 k ((Int.tdiv x0 10) % 256) ((strOfNums y74101) ++ x3) (decide (((Int.tdiv x0 10) % 256) > 0))) else (none))) else (some x3)
def ip_digits.f (k : Nat) (a0 : Int) : Option (ByteArray) := ip_digits.l0 k a0 (⟨#[]⟩ : ByteArray) true
theorem ip_digits.mono_l : ∀ k, (∀ y0 y1 y2, LeO (ip_digits.l0 k y0 y1 y2) (ip_digits.l0 (k + 1) y0 y1 y2))
  | 0 => fun _ _ _ r h => by simp [ip_digits.l0] at h
  | k + 1 => by
    have ih0 := ip_digits.mono_l k
    · intro y0 y1 y2
      unfold ip_digits.l0
      repeat' first
      | (with_reducible exact ih0 _ _ _)
      | (with_reducible exact LeO.refl _)
      | (with_reducible exact LeO.none _)
      | (with_reducible refine LeO.ite ?_ ?_)
      | (with_reducible refine LeO.bind ?_ (fun _ => ?_))
      | exact ih0 _ _ _
      | exact LeO.none _
      | refine LeO.ite ?_ ?_
      | refine LeO.bind ?_ (fun _ => ?_)
theorem ip_digits.mono : ∀ a0 k, LeO (ip_digits.f k a0) (ip_digits.f (k + 1) a0) := by
  intro a0 k
  have ih0 := ip_digits.mono_l k
  unfold ip_digits.f
  repeat' first
      | (with_reducible exact ih0 _ _ _)
      | (with_reducible exact LeO.refl _)
      | (with_reducible exact LeO.none _)
      | (with_reducible refine LeO.ite ?_ ?_)
      | (with_reducible refine LeO.bind ?_ (fun _ => ?_))
      | exact ih0 _ _ _
      | exact LeO.none _
      | refine LeO.ite ?_ ?_
      | refine LeO.bind ?_ (fun _ => ?_)
set_option maxHeartbeats 8000000 in
set_option maxRecDepth 100000 in
theorem ip_digits.calls (k : Nat) (a0 : Int) (r : ByteArray) (w : World) (h : ip_digits.f k a0 = some r) :
    Calls Tryd.prog 74 #[.int .u8 a0] w fun e w' => e = .returned (.string r) ∧ Below w.heap.size w w' := by
  have HB := Aside0.mk (Below.refl w.heap.size w)
  have H : (ip_digits.l0 k a0 (⟨#[]⟩ : ByteArray) true) = some r := h
  clear h
  have H' := Aside0.mk H
  clear H
  go_enter Tryd.func74, Tryd.ntmps74
  go_wp2
  go_loopg [0, 3, 4] k (fun kq v0 v3 v4 w' => ∃ (x0_1 : Int) (x3_1 : ByteArray) (x4_1 : Bool), v0 = .int .u8 x0_1 ∧ v3 = .string x3_1 ∧ v4 = .bool x4_1 ∧ Aside0 (ip_digits.l0 kq x0_1 x3_1 x4_1 = some r) ∧ Aside0 (kq ≤ k) ∧ Aside0 (Below w.heap.size w w'))
  case atStart => exact ⟨(a0), ((⟨#[]⟩ : ByteArray)), (true), (by first | rfl | (simp; done) | (simp [*]; done)), (by first | rfl | (simp; done) | (simp [*]; done)), (by first | rfl | (simp; done) | (simp [*]; done)), H', ⟨Nat.le_refl _⟩, ⟨by repeat (first | (with_reducible first | exact HB.out | apply below_alloc | apply pw_below_drewN | apply below_drew1) | exact HB.out)⟩⟩
  case round =>
    clear H'
    obtain ⟨x0_1, x3_1, x4_1, rfl, rfl, rfl, HA, HK1, HB⟩ := hrel
    cases gk with
    | zero => exact absurd HA.out (by simp [ip_digits.l0])
    | succ k1 =>
      have H := HA.out
      clear HA
      simp only [ip_digits.l0] at H
      by_cases c2 : x4_1 = true
      · subst c2
        have H1 : ((some (([(48 + (Int.tmod x0_1 10)) % 256] : List Int) : List Int)).bind fun y74101 => (if (strOfNums y74101).size + x3_1.size ≤ 9223372036854775807 then (ip_digits.l0 k1 ((Int.tdiv x0_1 10) % 256) ((strOfNums y74101) ++ x3_1) (decide (((Int.tdiv x0_1 10) % 256) > 0))) else (none))) = some r := by rw [if_pos rfl] at H; exact H
        clear H
        have H := H1
        clear H1
        obtain ⟨y74101, hy74101⟩ : ∃ y_ : List Int, y_ = (([(48 + (Int.tmod x0_1 10)) % 256] : List Int)) := ⟨_, rfl⟩
        replace H : (if (strOfNums y74101).size + x3_1.size ≤ 9223372036854775807 then (ip_digits.l0 k1 ((Int.tdiv x0_1 10) % 256) ((strOfNums y74101) ++ x3_1) (decide (((Int.tdiv x0_1 10) % 256) > 0))) else (none)) = some r := by first | (rw [hy74101]; with_reducible exact H) | (have H2_ := (Option.bind_some _ _).symm.trans H; rw [hy74101]; with_reducible exact H2_) | (have H2_ := (Option.bind_some _ _).symm.trans H; with_reducible exact H2_) | with_reducible exact H | (rw [hy74101]; exact H) | exact H
        have Ny74101 := Aside0.mk hy74101
        clear hy74101
        by_cases c3 : (strOfNums y74101).size + x3_1.size ≤ 9223372036854775807
        · rw [if_pos c3] at H
          have c3b0 := eq_true c3
          have c3b1 : decide ((strOfNums y74101).size + x3_1.size ≤ 9223372036854775807) = true := decide_eq_true c3
          try have c3b2 : (9223372036854775807 < (strOfNums y74101).size + x3_1.size) = False := eq_false (Nat.not_lt.2 c3)
          have H' := Aside0.mk H
          clear H
          go_wp2_with (first | ((with_reducible refine gate_dst (N := 11) rfl ?_); refine Kd.R_lit (Kd.int .u8) _ 5 ?hg (N := 11) ?hd (xs := ([(48 + (Int.tmod x0_1 10)) % 256] : List Int)) (inner := [.int .u8 ((48 + (Int.tmod x0_1 10)) % 256)]) (ok := fun _ => True) (okp := fun _ => True) ?hr ?hp (fun _ hk => hk) trivial (Below.refl _ _) (Nat.le_refl _) (by simp) ?_; (case hd => rfl); (case hg => rfl); (case hr => first | (go_simp; done) | (go_simp; rfl)); (case hp => exact (Reps.one (show Kd.M (Kd.int .u8) _ _ _ ((48 + (Int.tmod x0_1 10)) % 256) [.int .u8 ((48 + (Int.tmod x0_1 10)) % 256)] from rfl) (Reps.none _ _))); intro v74102 w4 ho5 hb hg_ hnew_; clear hg_ hnew_; (first | rw [← Ny74101.out] at ho5 | (simp only [Int.reduceToNat] at ho5; rw [← Ny74101.out] at ho5)); have n0_ := Aside0.mk (Kd.R_lower ho5 (below_size (by repeat (first | (with_reducible first | exact HB.out | apply below_alloc | apply pw_below_drewN | apply below_drew1) | exact HB.out)))); have n1_ := Aside0.mk (below_step (by repeat (first | (with_reducible first | exact HB.out | apply below_alloc | apply pw_below_drewN | apply below_drew1) | exact HB.out)) hb); clear HB; have HO74103 := n0_; have HB := n1_; clear n0_ n1_; clear hb ho5; have hcv6 := own_string (P := Tryd.prog) Tryd.underlying102 Tryd.underlying5 Tryd.underlying9 (Kd.own_of_R HO74103.out)))
          go_roundg k1
          case measure => have := HK1.out; omega
          case rel => exact ⟨((Int.tdiv x0_1 10) % 256), ((strOfNums y74101) ++ x3_1), (decide (((Int.tdiv x0_1 10) % 256) > 0)), (by first | rfl | (simp; done) | (simp [*]; done)), (by first | rfl | (simp; done) | (simp [*]; done)), (by first | rfl | (simp; done) | (simp [*]; done)), H', ⟨by have := HK1.out; omega⟩, ⟨by repeat (first | (with_reducible first | exact HB.out | apply below_alloc | apply pw_below_drewN | apply below_drew1) | exact HB.out)⟩⟩
        · rw [if_neg c3] at H
          exact absurd H (by simp)
      · replace c2 := Bool.eq_false_iff.mpr c2
        subst c2
        have H1 : (some x3_1) = some r := by rw [if_neg (show ¬ (false = true) by decide)] at H; exact H
        clear H
        have H := H1
        clear H1
        obtain rfl := Option.some.inj H
        go_wp2
        go_ret
        exact ⟨by first | rfl | (simp [errW_none, errW_some] <;> rfl) | (simp [*, errW_none, errW_some] <;> rfl), by repeat (first | (with_reducible first | exact HB.out | apply below_alloc | apply pw_below_drewN | apply below_drew1) | exact HB.out)⟩
end Go.Proofs.YtcdopgkkieenjaaDoor.V
end

-- VFIpValue
section
-- PRINTED by print.py (a twelfth state) out of the translation. Not trusted: Lean checks it.
namespace Go.Proofs.YtcdopgkkieenjaaDoor.V
open Go.RowKit Go.Proofs.YtcdopgkkieenjaaDoorW.PrintWords Go.Proofs.YtcdopgkkieenjaaDoorW.PrintLast Go.Proofs.YtcdopgkkieenjaaDoorW.PrintMore
attribute [local go_sem] max2_int min2_int max_two min_two max_three min_three max_four min_four   -- for this text's walks alone
set_option linter.unusedVariables false
set_option linter.unusedSimpArgs false

/-! ### ip_value: function 77 -/
mutual
def ip_value.j0 : Nat → ByteArray → Int → Bool → Option (Int × Bool)
  | 0, _, _, _ => none
  | k + 1, x0, x4, x12 => if x12 = true then (some (0, false)) else (ip_value.l0 k x0 x4 (x0.size : Int) 0)
def ip_value.l0 : Nat → ByteArray → Int → Int → Int → Option (Int × Bool)
  | 0, _, _, _, _ => none
  | k + 1, x0, x4, x14, x15 => if x15 < x14 then (if 0 ≤ x15 then (if x15 < (x0.size : Int) then (if (bt x0 x15) < 48 then (some (0, false)) else (if (bt x0 x15) > 57 then (some (0, false)) else (ip_value.l0 k x0 (wrap64 ((wrap64 (10 * x4)) + (((bt x0 x15) - 48) % 256))) x14 (wrap64 (x15 + 1))))) else (none)) else (none)) else (if x4 < 256 then ((ip_digits.f k ((x4) % 256)).bind fun t77101 => (some ((x4) % 256, (t77101.toList == x0.toList)))) else (some ((x4) % 256, false)))
end
def ip_value.f (k : Nat) (a0 : ByteArray) : Option (Int × Bool) := if a0.toList = ([] : List UInt8) then (ip_value.j0 k a0 0 true) else (ip_value.j0 k a0 0 (decide ((a0.size : Int) > 3)))
theorem ip_value.mono_l : ∀ k, (∀ y0 y1 y2, LeO (ip_value.j0 k y0 y1 y2) (ip_value.j0 (k + 1) y0 y1 y2)) ∧ (∀ y0 y1 y2 y3, LeO (ip_value.l0 k y0 y1 y2 y3) (ip_value.l0 (k + 1) y0 y1 y2 y3))
  | 0 => ⟨fun _ _ _ r h => by simp [ip_value.j0] at h, fun _ _ _ _ r h => by simp [ip_value.l0] at h⟩
  | k + 1 => by
    obtain ⟨ih0, ih1⟩ := ip_value.mono_l k
    refine ⟨?_, ?_⟩
    · intro y0 y1 y2
      unfold ip_value.j0
      repeat' first
      | (with_reducible exact ih0 _ _ _)
      | (with_reducible exact ih1 _ _ _ _)
      | (with_reducible exact ip_digits.mono _ _)
      | (with_reducible exact LeO.refl _)
      | (with_reducible exact LeO.none _)
      | (with_reducible refine LeO.ite ?_ ?_)
      | (with_reducible refine LeO.bind ?_ (fun _ => ?_))
      | exact ih0 _ _ _
      | exact ih1 _ _ _ _
      | exact ip_digits.mono _ _
      | exact LeO.none _
      | refine LeO.ite ?_ ?_
      | refine LeO.bind ?_ (fun _ => ?_)
    · intro y0 y1 y2 y3
      unfold ip_value.l0
      repeat' first
      | (with_reducible exact ih0 _ _ _)
      | (with_reducible exact ih1 _ _ _ _)
      | (with_reducible exact ip_digits.mono _ _)
      | (with_reducible exact LeO.refl _)
      | (with_reducible exact LeO.none _)
      | (with_reducible refine LeO.ite ?_ ?_)
      | (with_reducible refine LeO.bind ?_ (fun _ => ?_))
      | exact ih0 _ _ _
      | exact ih1 _ _ _ _
      | exact ip_digits.mono _ _
      | exact LeO.none _
      | refine LeO.ite ?_ ?_
      | refine LeO.bind ?_ (fun _ => ?_)
theorem ip_value.mono : ∀ a0 k, LeO (ip_value.f k a0) (ip_value.f (k + 1) a0) := by
  intro a0 k
  obtain ⟨ih0, ih1⟩ := ip_value.mono_l k
  unfold ip_value.f
  repeat' first
      | (with_reducible exact ih0 _ _ _)
      | (with_reducible exact ih1 _ _ _ _)
      | (with_reducible exact ip_digits.mono _ _)
      | (with_reducible exact LeO.refl _)
      | (with_reducible exact LeO.none _)
      | (with_reducible refine LeO.ite ?_ ?_)
      | (with_reducible refine LeO.bind ?_ (fun _ => ?_))
      | exact ih0 _ _ _
      | exact ih1 _ _ _ _
      | exact ip_digits.mono _ _
      | exact LeO.none _
      | refine LeO.ite ?_ ?_
      | refine LeO.bind ?_ (fun _ => ?_)
set_option maxHeartbeats 8000000 in
set_option maxRecDepth 100000 in
theorem ip_value.calls (k : Nat) (a0 : ByteArray) (r1 : Int) (r2 : Bool) (w : World) (h : ip_value.f k a0 = some (r1, r2)) :
    Calls Tryd.prog 77 #[.string a0] w fun e w' => e = .returned (.tuple #[.int .u8 r1, .bool r2]) ∧ Below w.heap.size w w' := by
  have HB := Aside0.mk (Below.refl w.heap.size w)
  have H : (if a0.toList = ([] : List UInt8) then (ip_value.j0 k a0 0 true) else (ip_value.j0 k a0 0 (decide ((a0.size : Int) > 3)))) = some (r1, r2) := h
  clear h
  have HC2 := Aside0.mk H
  clear H
  go_enter Tryd.func77, Tryd.ntmps77
  go_upto_region 2 with (fail)
  go_cut [12] (fun v12 wc => ∃ (kq : Nat) (x12_1 : Bool), v12 = .bool x12_1 ∧ Aside0 (ip_value.j0 kq a0 0 x12_1 = some (r1, r2)) ∧ Aside0 (kq ≤ k) ∧ Aside0 (Below w.heap.size w wc))
  case first =>
    have H := HC2.out
    clear HC2
    by_cases c3 : a0.toList = ([] : List UInt8)
    · rw [if_pos c3] at H
      have c3b0 : (a0.toList == ([] : List UInt8)) = true := beq_iff_eq.mpr c3
      have c3b1 : (a0.toList != ([] : List UInt8)) = false := bne_eq_false_iff_eq.mpr c3
      clear c3
      (first | rw [c3b0] | (simp only [i64_w, i32_w]; rw [c3b0]) | skip)
      have H' := Aside0.mk H
      clear H
      go_wp2
      go_meet
      case rel => exact ⟨_, (true), (by first | rfl | (simp; done) | (simp [*]; done)), H', ⟨by first | omega | exact Nat.le_refl _⟩, ⟨by repeat (first | (with_reducible first | exact HB.out | apply below_alloc | apply pw_below_drewN | apply below_drew1) | exact HB.out)⟩⟩
    · rw [if_neg c3] at H
      have c3b0 : (a0.toList == ([] : List UInt8)) = false := beq_eq_false_iff_ne.mpr c3
      have c3b1 : (a0.toList != ([] : List UInt8)) = true := bne_iff_ne.mpr c3
      (first | rw [c3b0] | (simp only [i64_w, i32_w]; rw [c3b0]) | skip)
      have H' := Aside0.mk H
      clear H
      go_wp2
      go_meet
      case rel => exact ⟨_, (decide ((a0.size : Int) > 3)), (by first | rfl | (simp; done) | (simp [*]; done)), H', ⟨by first | omega | exact Nat.le_refl _⟩, ⟨by repeat (first | (with_reducible first | exact HB.out | apply below_alloc | apply pw_below_drewN | apply below_drew1) | exact HB.out)⟩⟩
  case rest =>
    clear HC2
    try clear p2
    try clear c3
    try clear c3b0
    try clear c3b1
    obtain ⟨kq, x12_1, rfl, HA, HJ1, HB⟩ := hcut
    cases kq with
    | zero => exact absurd HA.out (by simp [ip_value.j0])
    | succ kj1 =>
      have H := HA.out
      clear HA
      simp only [ip_value.j0] at H
      by_cases c4 : x12_1 = true
      · subst c4
        have H1 : (some (0, false)) = some (r1, r2) := by rw [if_pos rfl] at H; exact H
        clear H
        have H := H1
        clear H1
        simp only [Option.some.injEq, Prod.mk.injEq] at H
        obtain ⟨rfl, rfl⟩ := H
        go_wp2
        go_ret2
        exact ⟨by first | rfl | (simp [errW_none, errW_some] <;> rfl) | (simp [*, errW_none, errW_some] <;> rfl), by repeat (first | (with_reducible first | exact HB.out | apply below_alloc | apply pw_below_drewN | apply below_drew1) | exact HB.out)⟩
      · replace c4 := Bool.eq_false_iff.mpr c4
        subst c4
        have H1 : (ip_value.l0 kj1 a0 0 (a0.size : Int) 0) = some (r1, r2) := by rw [if_neg (show ¬ (false = true) by decide)] at H; exact H
        clear H
        have H := H1
        clear H1
        have H' := Aside0.mk H
        clear H
        go_wp2
        go_loopg [4, 15] kj1 (fun kq v4 v15 w' => ∃ (x4_2 : Int) (x15_2 : Int), v4 = .int .i64 x4_2 ∧ v15 = .int .i64 x15_2 ∧ Aside0 (ip_value.l0 kq a0 x4_2 (a0.size : Int) x15_2 = some (r1, r2)) ∧ Aside0 (kq ≤ kj1) ∧ Aside0 (Below w.heap.size w w'))
        case atStart => exact ⟨(0), (0), (by first | rfl | (simp; done) | (simp [*]; done)), (by first | rfl | (simp; done) | (simp [*]; done)), H', ⟨Nat.le_refl _⟩, ⟨by repeat (first | (with_reducible first | exact HB.out | apply below_alloc | apply pw_below_drewN | apply below_drew1) | exact HB.out)⟩⟩
        case round =>
          clear H'
          try clear p2
          try clear c3
          try clear c3b0
          try clear c3b1
          try clear c4
          try clear p2
          obtain ⟨x4_2, x15_2, rfl, rfl, HA, HK2, HB⟩ := hrel
          cases gk with
          | zero => exact absurd HA.out (by simp [ip_value.l0])
          | succ k2 =>
            have H := HA.out
            clear HA
            simp only [ip_value.l0] at H
            by_cases c5 : x15_2 < (a0.size : Int)
            · rw [if_pos c5] at H
              have c5b0 : decide (x15_2 < (a0.size : Int)) = true := decide_eq_true c5
              clear c5
              by_cases c6 : 0 ≤ x15_2
              · rw [if_pos c6] at H
                have c6b0 : decide (0 ≤ x15_2) = true := decide_eq_true c6
                clear c6
                by_cases c7 : x15_2 < (a0.size : Int)
                · rw [if_pos c7] at H
                  have c7b0 : decide (x15_2 < (a0.size : Int)) = true := decide_eq_true c7
                  clear c7
                  by_cases c9 : (bt a0 x15_2) < 48
                  · rw [if_pos c9] at H
                    have c9b0 : decide ((bt a0 x15_2) < 48) = true := decide_eq_true c9
                    clear c9
                    simp only [Option.some.injEq, Prod.mk.injEq] at H
                    obtain ⟨rfl, rfl⟩ := H
                    have p8 : 0 ≤ (x15_2 : Int) := of_decide_eq_true (by first | (with_reducible assumption) | assumption)
                    have q8 : x15_2 < (a0.size : Int) := of_decide_eq_true (by first | (with_reducible assumption) | assumption)
                    have hx8 := bt_at a0 x15_2
                    replace p8 := eq_true p8
                    replace q8 := eq_true q8
                    go_wp2
                    go_ret2
                    exact ⟨by first | rfl | (simp [errW_none, errW_some] <;> rfl) | (simp [*, errW_none, errW_some] <;> rfl), by repeat (first | (with_reducible first | exact HB.out | apply below_alloc | apply pw_below_drewN | apply below_drew1) | exact HB.out)⟩
                  · rw [if_neg c9] at H
                    have c9b0 : decide ((bt a0 x15_2) < 48) = false := decide_eq_false c9
                    clear c9
                    by_cases c11 : (bt a0 x15_2) > 57
                    · rw [if_pos c11] at H
                      have c11b0 : decide (57 < (bt a0 x15_2)) = true := decide_eq_true c11
                      clear c11
                      simp only [Option.some.injEq, Prod.mk.injEq] at H
                      obtain ⟨rfl, rfl⟩ := H
                      have p8 : 0 ≤ (x15_2 : Int) := of_decide_eq_true (by first | (with_reducible assumption) | assumption)
                      have q8 : x15_2 < (a0.size : Int) := of_decide_eq_true (by first | (with_reducible assumption) | assumption)
                      have hx8 := bt_at a0 x15_2
                      replace p8 := eq_true p8
                      replace q8 := eq_true q8
                      have p10 : 0 ≤ (x15_2 : Int) := of_decide_eq_true (by first | (with_reducible assumption) | assumption)
                      have q10 : x15_2 < (a0.size : Int) := of_decide_eq_true (by first | (with_reducible assumption) | assumption)
                      have hx10 := bt_at a0 x15_2
                      replace p10 := eq_true p10
                      replace q10 := eq_true q10
                      go_wp2
                      go_ret2
                      exact ⟨by first | rfl | (simp [errW_none, errW_some] <;> rfl) | (simp [*, errW_none, errW_some] <;> rfl), by repeat (first | (with_reducible first | exact HB.out | apply below_alloc | apply pw_below_drewN | apply below_drew1) | exact HB.out)⟩
                    · rw [if_neg c11] at H
                      have c11b0 : decide (57 < (bt a0 x15_2)) = false := decide_eq_false c11
                      clear c11
                      have H' := Aside0.mk H
                      clear H
                      have p8 : 0 ≤ (x15_2 : Int) := of_decide_eq_true (by first | (with_reducible assumption) | assumption)
                      have q8 : x15_2 < (a0.size : Int) := of_decide_eq_true (by first | (with_reducible assumption) | assumption)
                      have hx8 := bt_at a0 x15_2
                      replace p8 := eq_true p8
                      replace q8 := eq_true q8
                      have p10 : 0 ≤ (x15_2 : Int) := of_decide_eq_true (by first | (with_reducible assumption) | assumption)
                      have q10 : x15_2 < (a0.size : Int) := of_decide_eq_true (by first | (with_reducible assumption) | assumption)
                      have hx10 := bt_at a0 x15_2
                      replace p10 := eq_true p10
                      replace q10 := eq_true q10
                      have p12 : 0 ≤ (x15_2 : Int) := of_decide_eq_true (by first | (with_reducible assumption) | assumption)
                      have q12 : x15_2 < (a0.size : Int) := of_decide_eq_true (by first | (with_reducible assumption) | assumption)
                      have hx12 := bt_at a0 x15_2
                      replace p12 := eq_true p12
                      replace q12 := eq_true q12
                      go_wp2
                      go_roundg k2
                      case measure => have := HJ1.out; have := HK2.out; omega
                      case rel => exact ⟨(wrap64 ((wrap64 (10 * x4_2)) + (((bt a0 x15_2) - 48) % 256))), (wrap64 (x15_2 + 1)), (by first | rfl | (simp; done) | (simp [*]; done)), (by first | rfl | (simp; done) | (simp [*]; done)), H', ⟨by have := HJ1.out; have := HK2.out; omega⟩, ⟨by repeat (first | (with_reducible first | exact HB.out | apply below_alloc | apply pw_below_drewN | apply below_drew1) | exact HB.out)⟩⟩
                · rw [if_neg c7] at H
                  exact absurd H (by simp)
              · rw [if_neg c6] at H
                exact absurd H (by simp)
            · rw [if_neg c5] at H
              have c5b0 : decide (x15_2 < (a0.size : Int)) = false := decide_eq_false c5
              clear c5
              by_cases c13 : x4_2 < 256
              · rw [if_pos c13] at H
                have c13b0 : decide (x4_2 < 256) = true := decide_eq_true c13
                clear c13
                replace H := Option.bind_eq_some_iff.mp H
                obtain ⟨t77101, A140, H⟩ := H
                replace H : (some ((x4_2) % 256, (t77101.toList == a0.toList))) = some (r1, r2) := H
                have A14 := Aside0.mk A140
                clear A140
                simp only [Option.some.injEq, Prod.mk.injEq] at H
                obtain ⟨rfl, rfl⟩ := H
                go_wp2_with (first | (go_at_call 74; (with_reducible refine (ip_digits.calls k2 ((x4_2) % 256) t77101 _ A14.out).mono ?_); rintro e w15 ⟨rfl, hb⟩; have n0_ := Aside0.mk (below_step (by repeat (first | (with_reducible first | exact HB.out | apply below_alloc | apply pw_below_drewN | apply below_drew1) | exact HB.out)) hb); clear HB; have HB := n0_; clear n0_; (try clear hb); (try clear hb2); (try clear hk); (try clear hi)))
                go_ret2
                exact ⟨by first | rfl | (simp [errW_none, errW_some] <;> rfl) | (simp [*, errW_none, errW_some] <;> rfl), by repeat (first | (with_reducible first | exact HB.out | apply below_alloc | apply pw_below_drewN | apply below_drew1) | exact HB.out)⟩
              · rw [if_neg c13] at H
                have c13b0 : decide (x4_2 < 256) = false := decide_eq_false c13
                clear c13
                simp only [Option.some.injEq, Prod.mk.injEq] at H
                obtain ⟨rfl, rfl⟩ := H
                go_wp2
                go_ret2
                exact ⟨by first | rfl | (simp [errW_none, errW_some] <;> rfl) | (simp [*, errW_none, errW_some] <;> rfl), by repeat (first | (with_reducible first | exact HB.out | apply below_alloc | apply pw_below_drewN | apply below_drew1) | exact HB.out)⟩
end Go.Proofs.YtcdopgkkieenjaaDoor.V
end

-- VFVirgateref01Num
section
-- PRINTED by print.py (a twelfth state) out of the translation. Not trusted: Lean checks it.
namespace Go.Proofs.YtcdopgkkieenjaaDoor.V
open Go.RowKit Go.Proofs.YtcdopgkkieenjaaDoorW.PrintWords Go.Proofs.YtcdopgkkieenjaaDoorW.PrintLast Go.Proofs.YtcdopgkkieenjaaDoorW.PrintMore
attribute [local go_sem] max2_int min2_int max_two min_two max_three min_three max_four min_four   -- for this text's walks alone
set_option linter.unusedVariables false
set_option linter.unusedSimpArgs false

/-! ### virgateref01_num: function 78 -/
def virgateref01_num.f : Nat → Int → Option (ByteArray)
  | 0, _ => none
  | k + 1, a0 => if a0 < 10 then (some (strOfNums (([(wrap64 (48 + a0)) % 256] : List Int)))) else ((virgateref01_num.f k (wrap64 (Int.tdiv a0 10))).bind fun t78104 => ((virgateref01_num.f k (Int.tmod a0 10)).bind fun t78105 => (if t78104.size + t78105.size ≤ 9223372036854775807 then (some (t78104 ++ t78105)) else (none))))
theorem virgateref01_num.mono_l : ∀ k, (∀ y0, LeO (virgateref01_num.f k y0) (virgateref01_num.f (k + 1) y0))
  | 0 => fun _ r h => by simp [virgateref01_num.f] at h
  | k + 1 => by
    have ih0 := virgateref01_num.mono_l k
    · intro y0
      unfold virgateref01_num.f
      repeat' first
      | (with_reducible exact ih0 _)
      | (with_reducible exact LeO.refl _)
      | (with_reducible exact LeO.none _)
      | (with_reducible refine LeO.ite ?_ ?_)
      | (with_reducible refine LeO.bind ?_ (fun _ => ?_))
      | exact ih0 _
      | exact LeO.none _
      | refine LeO.ite ?_ ?_
      | refine LeO.bind ?_ (fun _ => ?_)
theorem virgateref01_num.mono : ∀ a0 k, LeO (virgateref01_num.f k a0) (virgateref01_num.f (k + 1) a0) := by
  intro a0 k
  have ih0 := virgateref01_num.mono_l k
  exact ih0 a0
set_option maxHeartbeats 8000000 in
set_option maxRecDepth 100000 in
theorem virgateref01_num.calls (k : Nat) : ∀ (a0 : Int) (r : ByteArray) (w : World) (h : virgateref01_num.f k a0 = some r),
    Calls Tryd.prog 78 #[.int .i64 a0] w fun e w' => e = .returned (.string r) ∧ Below w.heap.size w w' := by
  induction k using Nat.strongRecOn with
  | _ k ih =>
  intro a0 r w h
  cases k with
  | zero => exact absurd h (by simp [virgateref01_num.f])
  | succ k =>
  simp only [virgateref01_num.f] at h
  have HB := Aside0.mk (Below.refl w.heap.size w)
  have H : (if a0 < 10 then (some (strOfNums (([(wrap64 (48 + a0)) % 256] : List Int)))) else ((virgateref01_num.f k (wrap64 (Int.tdiv a0 10))).bind fun t78104 => ((virgateref01_num.f k (Int.tmod a0 10)).bind fun t78105 => (if t78104.size + t78105.size ≤ 9223372036854775807 then (some (t78104 ++ t78105)) else (none))))) = some r := h
  clear h
  by_cases c2 : a0 < 10
  · rw [if_pos c2] at H
    have c2b0 : decide (a0 < 10) = true := decide_eq_true c2
    clear c2
    obtain ⟨y78101, hy78101⟩ : ∃ y_ : List Int, y_ = (([(wrap64 (48 + a0)) % 256] : List Int)) := ⟨_, rfl⟩
    replace H : (some (strOfNums y78101)) = some r := by first | (rw [hy78101]; with_reducible exact H) | (have H2_ := (Option.bind_some _ _).symm.trans H; rw [hy78101]; with_reducible exact H2_) | (have H2_ := (Option.bind_some _ _).symm.trans H; with_reducible exact H2_) | with_reducible exact H | (rw [hy78101]; exact H) | exact H
    have Ny78101 := Aside0.mk hy78101
    clear hy78101
    obtain rfl := Option.some.inj H
    go_enter Tryd.func78, Tryd.ntmps78
    go_wp2_with (first | ((with_reducible refine gate_dst (N := 8) rfl ?_); refine Kd.R_lit (Kd.int .u8) _ 5 ?hg (N := 8) ?hd (xs := ([(wrap64 (48 + a0)) % 256] : List Int)) (inner := [.int .u8 ((wrap64 (48 + a0)) % 256)]) (ok := fun _ => True) (okp := fun _ => True) ?hr ?hp (fun _ hk => hk) trivial (Below.refl _ _) (Nat.le_refl _) (by simp) ?_; (case hd => rfl); (case hg => rfl); (case hr => first | (go_simp; done) | (go_simp; rfl)); (case hp => exact (Reps.one (show Kd.M (Kd.int .u8) _ _ _ ((wrap64 (48 + a0)) % 256) [.int .u8 ((wrap64 (48 + a0)) % 256)] from rfl) (Reps.none _ _))); intro v78102 w3 ho4 hb hg_ hnew_; clear hg_ hnew_; (first | rw [← Ny78101.out] at ho4 | (simp only [Int.reduceToNat] at ho4; rw [← Ny78101.out] at ho4)); have n0_ := Aside0.mk (Kd.R_lower ho4 (below_size (by repeat (first | (with_reducible first | exact HB.out | apply below_alloc | apply pw_below_drewN | apply below_drew1) | exact HB.out)))); have n1_ := Aside0.mk (below_step (by repeat (first | (with_reducible first | exact HB.out | apply below_alloc | apply pw_below_drewN | apply below_drew1) | exact HB.out)) hb); clear HB; have HO78103 := n0_; have HB := n1_; clear n0_ n1_; clear hb ho4; have hcv5 := own_string (P := Tryd.prog) Tryd.underlying102 Tryd.underlying5 Tryd.underlying9 (Kd.own_of_R HO78103.out)))
    go_ret
    exact ⟨by first | rfl | (simp [errW_none, errW_some] <;> rfl) | (simp [*, errW_none, errW_some] <;> rfl), by repeat (first | (with_reducible first | exact HB.out | apply below_alloc | apply pw_below_drewN | apply below_drew1) | exact HB.out)⟩
  · rw [if_neg c2] at H
    have c2b0 : decide (a0 < 10) = false := decide_eq_false c2
    clear c2
    replace H := Option.bind_eq_some_iff.mp H
    obtain ⟨t78104, A60, H⟩ := H
    replace H : ((virgateref01_num.f k (Int.tmod a0 10)).bind fun t78105 => (if t78104.size + t78105.size ≤ 9223372036854775807 then (some (t78104 ++ t78105)) else (none))) = some r := H
    have A6 := Aside0.mk A60
    clear A60
    replace H := Option.bind_eq_some_iff.mp H
    obtain ⟨t78105, A70, H⟩ := H
    replace H : (if t78104.size + t78105.size ≤ 9223372036854775807 then (some (t78104 ++ t78105)) else (none)) = some r := H
    have A7 := Aside0.mk A70
    clear A70
    by_cases c8 : t78104.size + t78105.size ≤ 9223372036854775807
    · rw [if_pos c8] at H
      have c8b0 := eq_true c8
      have c8b1 : decide (t78104.size + t78105.size ≤ 9223372036854775807) = true := decide_eq_true c8
      try have c8b2 : (9223372036854775807 < t78104.size + t78105.size) = False := eq_false (Nat.not_lt.2 c8)
      obtain rfl := Option.some.inj H
      go_enter Tryd.func78, Tryd.ntmps78
      go_wp2_with (first | ((with_reducible refine gate_callee (f := 78) rfl ?_); refine goesL_ (some 12) rfl rfl Tryd.func78 (by kernel_rfl) rfl #[.int .i64 (wrap64 (Int.tdiv a0 10))] rfl (by (try simp only [List.map_toArray, List.map_cons, List.map_nil]); first | done | rfl | (simp only [List.length_drop, List.length_take]; rfl)) ?_; (with_reducible refine (ih k (by omega) (wrap64 (Int.tdiv a0 10)) t78104 _ A6.out).mono ?_); rintro e w9 ⟨rfl, hb⟩; refine ⟨_, rfl, ?_⟩; have n0_ := Aside0.mk (below_step (by repeat (first | (with_reducible first | exact HB.out | apply below_alloc | apply pw_below_drewN | apply below_drew1) | exact HB.out)) hb); clear HB; have HB := n0_; clear n0_; (try clear hb); (try clear hb2); (try clear hk); (try clear hi)) | ((with_reducible refine gate_callee (f := 78) rfl ?_); refine goesL_ (some 15) rfl rfl Tryd.func78 (by kernel_rfl) rfl #[.int .i64 (Int.tmod a0 10)] rfl (by (try simp only [List.map_toArray, List.map_cons, List.map_nil]); first | done | rfl | (simp only [List.length_drop, List.length_take]; rfl)) ?_; (with_reducible refine (ih k (by omega) (Int.tmod a0 10) t78105 _ A7.out).mono ?_); rintro e w10 ⟨rfl, hb⟩; refine ⟨_, rfl, ?_⟩; have n0_ := Aside0.mk (below_step (by repeat (first | (with_reducible first | exact HB.out | apply below_alloc | apply pw_below_drewN | apply below_drew1) | exact HB.out)) hb); clear HB; have HB := n0_; clear n0_; (try clear hb); (try clear hb2); (try clear hk); (try clear hi)))
      go_ret
      exact ⟨by first | rfl | (simp [errW_none, errW_some] <;> rfl) | (simp [*, errW_none, errW_some] <;> rfl), by repeat (first | (with_reducible first | exact HB.out | apply below_alloc | apply pw_below_drewN | apply below_drew1) | exact HB.out)⟩
    · rw [if_neg c8] at H
      exact absurd H (by simp)
end Go.Proofs.YtcdopgkkieenjaaDoor.V
end

-- VFVirgateref01Value
section
-- PRINTED by print.py (a twelfth state) out of the translation. Not trusted: Lean checks it.
namespace Go.Proofs.YtcdopgkkieenjaaDoor.V
open Go.RowKit Go.Proofs.YtcdopgkkieenjaaDoorW.PrintWords Go.Proofs.YtcdopgkkieenjaaDoorW.PrintLast Go.Proofs.YtcdopgkkieenjaaDoorW.PrintMore
attribute [local go_sem] max2_int min2_int max_two min_two max_three min_three max_four min_four   -- for this text's walks alone
set_option linter.unusedVariables false
set_option linter.unusedSimpArgs false

/-! ### virgateref01_Value: function 79 -/
def virgateref01_Value.l0 : Nat → ByteArray → Int → Int → Int → Option (Int × Bool)
  | 0, _, _, _, _ => none
  | k + 1, x0, x1, x6, x7 => if x7 < (x0.size : Int) then (if 0 ≤ x7 then (if (bt x0 x7) < 48 then (some (0, false)) else (if (bt x0 x7) > 57 then (some (0, false)) else (if x6 > x1 then (some (0, false)) else (virgateref01_Value.l0 k x0 x1 (wrap64 ((wrap64 ((wrap64 (10 * x6)) + (wrap64 (bt x0 x7)))) - 48)) (wrap64 (x7 + 1)))))) else (none)) else (if x0.toList = ([] : List UInt8) then (some (0, false)) else (if x6 > x1 then (some (0, false)) else ((virgateref01_num.f k x6).bind fun t79101 => (if t79101.toList = x0.toList then (some (x6, true)) else (some (0, false))))))
def virgateref01_Value.f (k : Nat) (a0 : ByteArray) (a1 : Int) : Option (Int × Bool) := virgateref01_Value.l0 k a0 a1 0 0
theorem virgateref01_Value.mono_l : ∀ k, (∀ y0 y1 y2 y3, LeO (virgateref01_Value.l0 k y0 y1 y2 y3) (virgateref01_Value.l0 (k + 1) y0 y1 y2 y3))
  | 0 => fun _ _ _ _ r h => by simp [virgateref01_Value.l0] at h
  | k + 1 => by
    have ih0 := virgateref01_Value.mono_l k
    · intro y0 y1 y2 y3
      unfold virgateref01_Value.l0
      repeat' first
      | (with_reducible exact ih0 _ _ _ _)
      | (with_reducible exact virgateref01_num.mono _ _)
      | (with_reducible exact LeO.refl _)
      | (with_reducible exact LeO.none _)
      | (with_reducible refine LeO.ite ?_ ?_)
      | (with_reducible refine LeO.bind ?_ (fun _ => ?_))
      | exact ih0 _ _ _ _
      | exact virgateref01_num.mono _ _
      | exact LeO.none _
      | refine LeO.ite ?_ ?_
      | refine LeO.bind ?_ (fun _ => ?_)
theorem virgateref01_Value.mono : ∀ a0 a1 k, LeO (virgateref01_Value.f k a0 a1) (virgateref01_Value.f (k + 1) a0 a1) := by
  intro a0 a1 k
  have ih0 := virgateref01_Value.mono_l k
  unfold virgateref01_Value.f
  repeat' first
      | (with_reducible exact ih0 _ _ _ _)
      | (with_reducible exact virgateref01_num.mono _ _)
      | (with_reducible exact LeO.refl _)
      | (with_reducible exact LeO.none _)
      | (with_reducible refine LeO.ite ?_ ?_)
      | (with_reducible refine LeO.bind ?_ (fun _ => ?_))
      | exact ih0 _ _ _ _
      | exact virgateref01_num.mono _ _
      | exact LeO.none _
      | refine LeO.ite ?_ ?_
      | refine LeO.bind ?_ (fun _ => ?_)
set_option maxHeartbeats 8000000 in
set_option maxRecDepth 100000 in
theorem virgateref01_Value.calls (k : Nat) (a0 : ByteArray) (a1 : Int) (r1 : Int) (r2 : Bool) (w : World) (h : virgateref01_Value.f k a0 a1 = some (r1, r2)) :
    Calls Tryd.prog 79 #[.string a0, .int .i64 a1] w fun e w' => e = .returned (.tuple #[.int .i64 r1, .bool r2]) ∧ Below w.heap.size w w' := by
  have HB := Aside0.mk (Below.refl w.heap.size w)
  have H : (virgateref01_Value.l0 k a0 a1 0 0) = some (r1, r2) := h
  clear h
  have H' := Aside0.mk H
  clear H
  go_enter Tryd.func79, Tryd.ntmps79
  go_wp2
  go_loopg [6, 7] k (fun kq v6 v7 w' => ∃ (x6_1 : Int) (x7_1 : Int), v6 = .int .i64 x6_1 ∧ v7 = .int .i64 x7_1 ∧ Aside0 (virgateref01_Value.l0 kq a0 a1 x6_1 x7_1 = some (r1, r2)) ∧ Aside0 (kq ≤ k) ∧ Aside0 (Below w.heap.size w w'))
  case atStart => exact ⟨(0), (0), (by first | rfl | (simp; done) | (simp [*]; done)), (by first | rfl | (simp; done) | (simp [*]; done)), H', ⟨Nat.le_refl _⟩, ⟨by repeat (first | (with_reducible first | exact HB.out | apply below_alloc | apply pw_below_drewN | apply below_drew1) | exact HB.out)⟩⟩
  case round =>
    clear H'
    try clear p2
    obtain ⟨x6_1, x7_1, rfl, rfl, HA, HK1, HB⟩ := hrel
    cases gk with
    | zero => exact absurd HA.out (by simp [virgateref01_Value.l0])
    | succ k1 =>
      have H := HA.out
      clear HA
      simp only [virgateref01_Value.l0] at H
      by_cases c3 : x7_1 < (a0.size : Int)
      · rw [if_pos c3] at H
        have c3b0 : decide (x7_1 < (a0.size : Int)) = true := decide_eq_true c3
        clear c3
        by_cases c4 : 0 ≤ x7_1
        · rw [if_pos c4] at H
          have c4b0 : decide (0 ≤ x7_1) = true := decide_eq_true c4
          clear c4
          by_cases c6 : (bt a0 x7_1) < 48
          · rw [if_pos c6] at H
            have c6b0 : decide ((bt a0 x7_1) < 48) = true := decide_eq_true c6
            clear c6
            simp only [Option.some.injEq, Prod.mk.injEq] at H
            obtain ⟨rfl, rfl⟩ := H
            have p5 : 0 ≤ (x7_1 : Int) := of_decide_eq_true (by first | (with_reducible assumption) | assumption)
            have q5 : x7_1 < (a0.size : Int) := of_decide_eq_true (by first | (with_reducible assumption) | assumption)
            have hx5 := bt_at a0 x7_1
            replace p5 := eq_true p5
            replace q5 := eq_true q5
            go_wp2
            go_ret2
            exact ⟨by first | rfl | (simp [errW_none, errW_some] <;> rfl) | (simp [*, errW_none, errW_some] <;> rfl), by repeat (first | (with_reducible first | exact HB.out | apply below_alloc | apply pw_below_drewN | apply below_drew1) | exact HB.out)⟩
          · rw [if_neg c6] at H
            have c6b0 : decide ((bt a0 x7_1) < 48) = false := decide_eq_false c6
            clear c6
            by_cases c8 : (bt a0 x7_1) > 57
            · rw [if_pos c8] at H
              have c8b0 : decide (57 < (bt a0 x7_1)) = true := decide_eq_true c8
              clear c8
              simp only [Option.some.injEq, Prod.mk.injEq] at H
              obtain ⟨rfl, rfl⟩ := H
              have p5 : 0 ≤ (x7_1 : Int) := of_decide_eq_true (by first | (with_reducible assumption) | assumption)
              have q5 : x7_1 < (a0.size : Int) := of_decide_eq_true (by first | (with_reducible assumption) | assumption)
              have hx5 := bt_at a0 x7_1
              replace p5 := eq_true p5
              replace q5 := eq_true q5
              have p7 : 0 ≤ (x7_1 : Int) := of_decide_eq_true (by first | (with_reducible assumption) | assumption)
              have q7 : x7_1 < (a0.size : Int) := of_decide_eq_true (by first | (with_reducible assumption) | assumption)
              have hx7 := bt_at a0 x7_1
              replace p7 := eq_true p7
              replace q7 := eq_true q7
              go_wp2
              go_ret2
              exact ⟨by first | rfl | (simp [errW_none, errW_some] <;> rfl) | (simp [*, errW_none, errW_some] <;> rfl), by repeat (first | (with_reducible first | exact HB.out | apply below_alloc | apply pw_below_drewN | apply below_drew1) | exact HB.out)⟩
            · rw [if_neg c8] at H
              have c8b0 : decide (57 < (bt a0 x7_1)) = false := decide_eq_false c8
              clear c8
              by_cases c9 : x6_1 > a1
              · rw [if_pos c9] at H
                have c9b0 : decide (a1 < x6_1) = true := decide_eq_true c9
                clear c9
                simp only [Option.some.injEq, Prod.mk.injEq] at H
                obtain ⟨rfl, rfl⟩ := H
                have p5 : 0 ≤ (x7_1 : Int) := of_decide_eq_true (by first | (with_reducible assumption) | assumption)
                have q5 : x7_1 < (a0.size : Int) := of_decide_eq_true (by first | (with_reducible assumption) | assumption)
                have hx5 := bt_at a0 x7_1
                replace p5 := eq_true p5
                replace q5 := eq_true q5
                have p7 : 0 ≤ (x7_1 : Int) := of_decide_eq_true (by first | (with_reducible assumption) | assumption)
                have q7 : x7_1 < (a0.size : Int) := of_decide_eq_true (by first | (with_reducible assumption) | assumption)
                have hx7 := bt_at a0 x7_1
                replace p7 := eq_true p7
                replace q7 := eq_true q7
                go_wp2
                go_ret2
                exact ⟨by first | rfl | (simp [errW_none, errW_some] <;> rfl) | (simp [*, errW_none, errW_some] <;> rfl), by repeat (first | (with_reducible first | exact HB.out | apply below_alloc | apply pw_below_drewN | apply below_drew1) | exact HB.out)⟩
              · rw [if_neg c9] at H
                have c9b0 : decide (a1 < x6_1) = false := decide_eq_false c9
                clear c9
                have H' := Aside0.mk H
                clear H
                have p5 : 0 ≤ (x7_1 : Int) := of_decide_eq_true (by first | (with_reducible assumption) | assumption)
                have q5 : x7_1 < (a0.size : Int) := of_decide_eq_true (by first | (with_reducible assumption) | assumption)
                have hx5 := bt_at a0 x7_1
                replace p5 := eq_true p5
                replace q5 := eq_true q5
                have p7 : 0 ≤ (x7_1 : Int) := of_decide_eq_true (by first | (with_reducible assumption) | assumption)
                have q7 : x7_1 < (a0.size : Int) := of_decide_eq_true (by first | (with_reducible assumption) | assumption)
                have hx7 := bt_at a0 x7_1
                replace p7 := eq_true p7
                replace q7 := eq_true q7
                have p10 : 0 ≤ (x7_1 : Int) := of_decide_eq_true (by first | (with_reducible assumption) | assumption)
                have q10 : x7_1 < (a0.size : Int) := of_decide_eq_true (by first | (with_reducible assumption) | assumption)
                have hx10 := bt_at a0 x7_1
                replace p10 := eq_true p10
                replace q10 := eq_true q10
                go_wp2
                go_roundg k1
                case measure => have := HK1.out; omega
                case rel => exact ⟨(wrap64 ((wrap64 ((wrap64 (10 * x6_1)) + (wrap64 (bt a0 x7_1)))) - 48)), (wrap64 (x7_1 + 1)), (by first | rfl | (simp; done) | (simp [*]; done)), (by first | rfl | (simp; done) | (simp [*]; done)), H', ⟨by have := HK1.out; omega⟩, ⟨by repeat (first | (with_reducible first | exact HB.out | apply below_alloc | apply pw_below_drewN | apply below_drew1) | exact HB.out)⟩⟩
        · rw [if_neg c4] at H
          exact absurd H (by simp)
      · rw [if_neg c3] at H
        have c3b0 : decide (x7_1 < (a0.size : Int)) = false := decide_eq_false c3
        clear c3
        by_cases c11 : a0.toList = ([] : List UInt8)
        · rw [if_pos c11] at H
          have c11b0 : (a0.toList == ([] : List UInt8)) = true := beq_iff_eq.mpr c11
          have c11b1 : (a0.toList != ([] : List UInt8)) = false := bne_eq_false_iff_eq.mpr c11
          clear c11
          simp only [Option.some.injEq, Prod.mk.injEq] at H
          obtain ⟨rfl, rfl⟩ := H
          go_wp2
          go_ret2
          exact ⟨by first | rfl | (simp [errW_none, errW_some] <;> rfl) | (simp [*, errW_none, errW_some] <;> rfl), by repeat (first | (with_reducible first | exact HB.out | apply below_alloc | apply pw_below_drewN | apply below_drew1) | exact HB.out)⟩
        · rw [if_neg c11] at H
          have c11b0 : (a0.toList == ([] : List UInt8)) = false := beq_eq_false_iff_ne.mpr c11
          have c11b1 : (a0.toList != ([] : List UInt8)) = true := bne_iff_ne.mpr c11
          by_cases c12 : x6_1 > a1
          · rw [if_pos c12] at H
            have c12b0 : decide (a1 < x6_1) = true := decide_eq_true c12
            clear c12
            simp only [Option.some.injEq, Prod.mk.injEq] at H
            obtain ⟨rfl, rfl⟩ := H
            go_wp2
            go_ret2
            exact ⟨by first | rfl | (simp [errW_none, errW_some] <;> rfl) | (simp [*, errW_none, errW_some] <;> rfl), by repeat (first | (with_reducible first | exact HB.out | apply below_alloc | apply pw_below_drewN | apply below_drew1) | exact HB.out)⟩
          · rw [if_neg c12] at H
            have c12b0 : decide (a1 < x6_1) = false := decide_eq_false c12
            clear c12
            replace H := Option.bind_eq_some_iff.mp H
            obtain ⟨t79101, A130, H⟩ := H
            replace H : (if t79101.toList = a0.toList then (some (x6_1, true)) else (some (0, false))) = some (r1, r2) := H
            have A13 := Aside0.mk A130
            clear A130
            by_cases c14 : t79101.toList = a0.toList
            · rw [if_pos c14] at H
              have c14b0 : (t79101.toList == a0.toList) = true := beq_iff_eq.mpr c14
              have c14b1 : (t79101.toList != a0.toList) = false := bne_eq_false_iff_eq.mpr c14
              clear c14
              simp only [Option.some.injEq, Prod.mk.injEq] at H
              obtain ⟨rfl, rfl⟩ := H
              go_wp2_with (first | (go_at_call 78; (with_reducible refine (virgateref01_num.calls k1 x6_1 t79101 _ A13.out).mono ?_); rintro e w15 ⟨rfl, hb⟩; have n0_ := Aside0.mk (below_step (by repeat (first | (with_reducible first | exact HB.out | apply below_alloc | apply pw_below_drewN | apply below_drew1) | exact HB.out)) hb); clear HB; have HB := n0_; clear n0_; (try clear hb); (try clear hb2); (try clear hk); (try clear hi)))
              go_ret2
              exact ⟨by first | rfl | (simp [errW_none, errW_some] <;> rfl) | (simp [*, errW_none, errW_some] <;> rfl), by repeat (first | (with_reducible first | exact HB.out | apply below_alloc | apply pw_below_drewN | apply below_drew1) | exact HB.out)⟩
            · rw [if_neg c14] at H
              have c14b0 : (t79101.toList == a0.toList) = false := beq_eq_false_iff_ne.mpr c14
              have c14b1 : (t79101.toList != a0.toList) = true := bne_iff_ne.mpr c14
              simp only [Option.some.injEq, Prod.mk.injEq] at H
              obtain ⟨rfl, rfl⟩ := H
              go_wp2_with (first | (go_at_call 78; (with_reducible refine (virgateref01_num.calls k1 x6_1 t79101 _ A13.out).mono ?_); rintro e w16 ⟨rfl, hb⟩; have n0_ := Aside0.mk (below_step (by repeat (first | (with_reducible first | exact HB.out | apply below_alloc | apply pw_below_drewN | apply below_drew1) | exact HB.out)) hb); clear HB; have HB := n0_; clear n0_; (try clear hb); (try clear hb2); (try clear hk); (try clear hi)))
              go_ret2
              exact ⟨by first | rfl | (simp [errW_none, errW_some] <;> rfl) | (simp [*, errW_none, errW_some] <;> rfl), by repeat (first | (with_reducible first | exact HB.out | apply below_alloc | apply pw_below_drewN | apply below_drew1) | exact HB.out)⟩
end Go.Proofs.YtcdopgkkieenjaaDoor.V
end

-- IDec
section
/- Decimal texts of numbers below 256; more rounds change nothing. -/
namespace Go.Proofs.YtcdopgkkieenjaaDoor.V
open Go.RowKit Go.Proofs.YtcdopgkkieenjaaDoorW.PrintWords Go.Proofs.YtcdopgkkieenjaaDoorW.PrintLast Go.Proofs.YtcdopgkkieenjaaDoorW.PrintMore
set_option linter.unusedVariables false

theorem up {α : Type} (F : Nat → Option α) (hm : ∀ k, LeO (F k) (F (k + 1))) {k k' : Nat} (h : k ≤ k') {r : α} (hr : F k = some r) : F k' = some r := by
  obtain ⟨d, rfl⟩ := Nat.le.dest h
  induction d with
  | zero => exact hr
  | succ n ih => exact hm _ _ (ih (by omega))
/-- A number below 1000 in decimal. -/
def decL (n : Nat) : List UInt8 := if n < 10 then [UInt8.ofNat (48 + n)] else if n < 100 then [UInt8.ofNat (48 + n / 10), UInt8.ofNat (48 + n % 10)] else [UInt8.ofNat (48 + n / 100), UInt8.ofNat (48 + n / 10 % 10), UInt8.ofNat (48 + n % 10)]
def decB (n : Nat) : ByteArray := ⟨(decL n).toArray⟩
theorem dig_all : ((List.range 256).all fun n => decide (ip_digits.f 5 (n : Int) = some (decB n))) = true := by kernel_rfl
theorem num_all : ((List.range 256).all fun n => decide (virgateref01_num.f 4 (n : Int) = some (decB n))) = true := by kernel_rfl
theorem val_all : ((List.range 256).all fun n => decide (ip_value.f 12 (decB n) = some ((n : Int), true))) = true := by kernel_rfl
end Go.Proofs.YtcdopgkkieenjaaDoor.V
end

-- IByteOf
section
/- Which number below 256 a text is in decimal. -/
namespace Go.Proofs.YtcdopgkkieenjaaDoor.V
open Go.RowKit Go.Proofs.YtcdopgkkieenjaaDoorW.PrintWords Go.Proofs.YtcdopgkkieenjaaDoorW.PrintLast Go.Proofs.YtcdopgkkieenjaaDoorW.PrintMore
set_option linter.unusedVariables false
set_option linter.unusedSimpArgs false

/-- The number below 256 that a text is in decimal. -/
def byteOf (w : List UInt8) : Option Nat := (List.range 256).find? fun n => decL n == w
theorem decL_all : ((List.range 256).all fun n => byteOf (decL n) == some n) = true := by kernel_rfl
theorem byteOf_decL (n : Nat) (h : n < 256) : byteOf (decL n) = some n := by
  have := List.all_eq_true.1 decL_all n (List.mem_range.2 h)
  simpa using this
theorem byteOf_some {w : List UInt8} {n : Nat} (h : byteOf w = some n) : n < 256 ∧ w = decL n := by
  unfold byteOf at h
  have h1 := List.find?_some h
  have h2 := List.mem_of_find?_eq_some h
  exact ⟨List.mem_range.1 h2, (by simpa using h1 : decL n = w).symm⟩
theorem decB_data (n : Nat) : (decB n).data.toList = decL n := by simp [decB]
theorem eq_decB {s : ByteArray} {n : Nat} (h : s.data.toList = decL n) : s = decB n := by
  cases s with
  | mk d => simp [decB]; rw [← h]
theorem of_toList {s t : ByteArray} (h : s.toList = t.toList) : s.data.toList = t.data.toList := by rw [← Lib.toList_data, ← Lib.toList_data, h]
theorem decL_length (n : Nat) : (decL n).length ≤ 3 := by unfold decL; split <;> (try split) <;> simp
theorem dig_f (n : Nat) (hn : n < 256) (k : Nat) (hk : 5 ≤ k) : ip_digits.f k (n : Int) = some (decB n) :=
  up (fun k => ip_digits.f k (n : Int)) (ip_digits.mono _) hk (by have := List.all_eq_true.1 dig_all n (List.mem_range.2 hn); simpa using this)
theorem num_f (n : Nat) (hn : n < 256) (k : Nat) (hk : 4 ≤ k) : virgateref01_num.f k (n : Int) = some (decB n) :=
  up (fun k => virgateref01_num.f k (n : Int)) (virgateref01_num.mono _) hk (by have := List.all_eq_true.1 num_all n (List.mem_range.2 hn); simpa using this)
/-! ### ip.value -/
theorem val_l0 (s : ByteArray) (hs : s.size ≤ 3) : ∀ (d k j : Nat) (v : Int), s.size - j ≤ d → d + 6 ≤ k → j ≤ s.size →
    ∃ r, ip_value.l0 k s v (s.size : Int) (j : Int) = some r ∧ (r.2 = true → ∃ n : Nat, n < 256 ∧ s.data.toList = decL n) := by
  intro d
  induction d with
  | zero =>
    intro k j v hd hk hj
    obtain ⟨k, rfl⟩ : ∃ m, k = m + 1 := ⟨k - 1, by omega⟩
    unfold ip_value.l0
    rw [if_neg (by omega)]
    by_cases hv : v < 256
    · obtain ⟨n, hn⟩ : ∃ n : Nat, v % 256 = n := ⟨(v % 256).toNat, by omega⟩
      rw [if_pos hv, hn, dig_f n (by omega) k (by omega)]
      refine ⟨_, rfl, fun h => ⟨n, by omega, ?_⟩⟩
      have e := of_toList (by simpa using h : (decB n).toList = s.toList)
      rw [← e, decB_data]
    · rw [if_neg hv]
      exact ⟨_, rfl, fun h => (by cases h)⟩
  | succ d ih =>
    intro k j v hd hk hj
    by_cases hj2 : j = s.size
    · exact ih k j v (by omega) (by omega) hj
    obtain ⟨k, rfl⟩ : ∃ m, k = m + 1 := ⟨k - 1, by omega⟩
    unfold ip_value.l0
    rw [if_pos (by omega), if_pos (by omega), if_pos (by omega)]
    split
    · exact ⟨_, rfl, fun h => (by cases h)⟩
    · split
      · exact ⟨_, rfl, fun h => (by cases h)⟩
      · rw [wrap64_id ((j : Int) + 1) (by omega) (by omega)]
        exact ih k (j + 1) _ (by omega) (by omega) (by omega)
/-- What a piece answers. -/
def valOk (s : ByteArray) (r : Int × Bool) : Prop := match byteOf s.data.toList with
  | some n => r = ((n : Int), true)
  | none => r.2 = false
theorem val_f (s : ByteArray) (k : Nat) (hk : 12 ≤ k) : ∃ r, ip_value.f k s = some r ∧ valOk s r := by
  cases hb : byteOf s.data.toList with
  | some n =>
    obtain ⟨h1, h2⟩ := byteOf_some hb
    have e := eq_decB h2
    subst e
    refine ⟨((n : Int), true), up (fun k => ip_value.f k (decB n)) (ip_value.mono _) hk ?_, by unfold valOk; rw [hb]⟩
    have := List.all_eq_true.1 val_all n (List.mem_range.2 h1)
    simpa using this
  | none =>
    suffices h : ∃ r, ip_value.f k s = some r ∧ (r.2 = true → ∃ n : Nat, n < 256 ∧ s.data.toList = decL n) by
      obtain ⟨r, h1, h2⟩ := h
      refine ⟨r, h1, ?_⟩
      unfold valOk
      rw [hb]
      cases hr : r.2 with
      | false => rfl
      | true =>
        obtain ⟨n, hn, e⟩ := h2 hr
        rw [e, byteOf_decL n hn] at hb
        cases hb
    obtain ⟨k, rfl⟩ : ∃ m, k = m + 1 := ⟨k - 1, by omega⟩
    simp only [ip_value.f, ip_value.j0]
    split
    · exact ⟨_, rfl, fun h => (by cases h)⟩
    · by_cases h3 : s.size ≤ 3
      · rw [if_neg (by simp; omega)]
        exact val_l0 s h3 3 k 0 0 (by omega) (by omega) (by omega)
      · rw [if_pos (by simp; omega)]
        exact ⟨_, rfl, fun h => (by cases h)⟩
/-! ### The document's Value -/
end Go.Proofs.YtcdopgkkieenjaaDoor.V
end

