/- The law BlockRight for every input: texts of ours, put together (part 4 of 12). No further condition. -/
import Derived.Test.YtemhalnhbgkbcaaCBlockRightx2
import Derived.Laws.RangeAny
import Derived.Outline
-- VFVirgateref12Right
section
-- PRINTED by print.py (a twelfth state) out of the translation. Not trusted: Lean checks it.
namespace Go.Proofs.Ytemhalnhbgkbcaa.V
open Go.RowKit Go.Proofs.YtemhalnhbgkbcaaW.PrintWords Go.Proofs.YtemhalnhbgkbcaaW.PrintLast Go.Proofs.YtemhalnhbgkbcaaW.PrintMore
attribute [local go_sem] max2_int min2_int max_two min_two max_three min_three max_four min_four   -- for this text's walks alone
set_option linter.unusedVariables false
set_option linter.unusedSimpArgs false

/-! ### virgateref12_Right: function 81 -/
def virgateref12_Right.l0 : Nat → ByteArray → Int → Option (Bool)
  | 0, _, _ => none
  | k + 1, x0, x3 => if x3 < (x0.size : Int) then (if 0 ≤ x3 then (if (bt x0 x3) ≥ 97 then (if (bt x0 x3) ≤ 122 then (virgateref12_Right.l0 k x0 (wrap64 (x3 + 1))) else (if (bt x0 x3) ≥ 65 then (if (bt x0 x3) ≤ 90 then (virgateref12_Right.l0 k x0 (wrap64 (x3 + 1))) else (if (bt x0 x3) ≥ 48 then (if (bt x0 x3) ≤ 57 then (virgateref12_Right.l0 k x0 (wrap64 (x3 + 1))) else (if (bt x0 x3) = 46 then (virgateref12_Right.l0 k x0 (wrap64 (x3 + 1))) else (if (bt x0 x3) = 45 then (virgateref12_Right.l0 k x0 (wrap64 (x3 + 1))) else (if ((bt x0 x3) = 95) then (virgateref12_Right.l0 k x0 (wrap64 (x3 + 1))) else (some false))))) else (if (bt x0 x3) = 46 then (virgateref12_Right.l0 k x0 (wrap64 (x3 + 1))) else (if (bt x0 x3) = 45 then (virgateref12_Right.l0 k x0 (wrap64 (x3 + 1))) else (if ((bt x0 x3) = 95) then (virgateref12_Right.l0 k x0 (wrap64 (x3 + 1))) else (some false)))))) else (if (bt x0 x3) ≥ 48 then (if (bt x0 x3) ≤ 57 then (virgateref12_Right.l0 k x0 (wrap64 (x3 + 1))) else (if (bt x0 x3) = 46 then (virgateref12_Right.l0 k x0 (wrap64 (x3 + 1))) else (if (bt x0 x3) = 45 then (virgateref12_Right.l0 k x0 (wrap64 (x3 + 1))) else (if ((bt x0 x3) = 95) then (virgateref12_Right.l0 k x0 (wrap64 (x3 + 1))) else (some false))))) else (if (bt x0 x3) = 46 then (virgateref12_Right.l0 k x0 (wrap64 (x3 + 1))) else (if (bt x0 x3) = 45 then (virgateref12_Right.l0 k x0 (wrap64 (x3 + 1))) else (if ((bt x0 x3) = 95) then (virgateref12_Right.l0 k x0 (wrap64 (x3 + 1))) else (some false))))))) else (if (bt x0 x3) ≥ 65 then (if (bt x0 x3) ≤ 90 then (virgateref12_Right.l0 k x0 (wrap64 (x3 + 1))) else (if (bt x0 x3) ≥ 48 then (if (bt x0 x3) ≤ 57 then (virgateref12_Right.l0 k x0 (wrap64 (x3 + 1))) else (if (bt x0 x3) = 46 then (virgateref12_Right.l0 k x0 (wrap64 (x3 + 1))) else (if (bt x0 x3) = 45 then (virgateref12_Right.l0 k x0 (wrap64 (x3 + 1))) else (if ((bt x0 x3) = 95) then (virgateref12_Right.l0 k x0 (wrap64 (x3 + 1))) else (some false))))) else (if (bt x0 x3) = 46 then (virgateref12_Right.l0 k x0 (wrap64 (x3 + 1))) else (if (bt x0 x3) = 45 then (virgateref12_Right.l0 k x0 (wrap64 (x3 + 1))) else (if ((bt x0 x3) = 95) then (virgateref12_Right.l0 k x0 (wrap64 (x3 + 1))) else (some false)))))) else (if (bt x0 x3) ≥ 48 then (if (bt x0 x3) ≤ 57 then (virgateref12_Right.l0 k x0 (wrap64 (x3 + 1))) else (if (bt x0 x3) = 46 then (virgateref12_Right.l0 k x0 (wrap64 (x3 + 1))) else (if (bt x0 x3) = 45 then (virgateref12_Right.l0 k x0 (wrap64 (x3 + 1))) else (if ((bt x0 x3) = 95) then (virgateref12_Right.l0 k x0 (wrap64 (x3 + 1))) else (some false))))) else (if (bt x0 x3) = 46 then (virgateref12_Right.l0 k x0 (wrap64 (x3 + 1))) else (if (bt x0 x3) = 45 then (virgateref12_Right.l0 k x0 (wrap64 (x3 + 1))) else (if ((bt x0 x3) = 95) then (virgateref12_Right.l0 k x0 (wrap64 (x3 + 1))) else (some false))))))) else (none)) else (if (x0.size : Int) ≥ 1 then (some (decide ((x0.size : Int) ≤ 64))) else (some false))
def virgateref12_Right.f (k : Nat) (a0 : ByteArray) : Option (Bool) := virgateref12_Right.l0 k a0 0
theorem virgateref12_Right.mono_l : ∀ k, (∀ y0 y1, LeO (virgateref12_Right.l0 k y0 y1) (virgateref12_Right.l0 (k + 1) y0 y1))
  | 0 => fun _ _ r h => by simp [virgateref12_Right.l0] at h
  | k + 1 => by
    have ih0 := virgateref12_Right.mono_l k
    · intro y0 y1
      unfold virgateref12_Right.l0
      repeat' first
      | (with_reducible exact ih0 _ _)
      | (with_reducible exact LeO.refl _)
      | (with_reducible exact LeO.none _)
      | (with_reducible refine LeO.ite ?_ ?_)
      | (with_reducible refine LeO.bind ?_ (fun _ => ?_))
      | exact ih0 _ _
      | exact LeO.none _
      | refine LeO.ite ?_ ?_
      | refine LeO.bind ?_ (fun _ => ?_)
theorem virgateref12_Right.mono : ∀ a0 k, LeO (virgateref12_Right.f k a0) (virgateref12_Right.f (k + 1) a0) := by
  intro a0 k
  have ih0 := virgateref12_Right.mono_l k
  unfold virgateref12_Right.f
  repeat' first
      | (with_reducible exact ih0 _ _)
      | (with_reducible exact LeO.refl _)
      | (with_reducible exact LeO.none _)
      | (with_reducible refine LeO.ite ?_ ?_)
      | (with_reducible refine LeO.bind ?_ (fun _ => ?_))
      | exact ih0 _ _
      | exact LeO.none _
      | refine LeO.ite ?_ ?_
      | refine LeO.bind ?_ (fun _ => ?_)
set_option maxHeartbeats 8000000 in
set_option maxRecDepth 100000 in
theorem virgateref12_Right.calls (k : Nat) (a0 : ByteArray) (r : Bool) (w : World) (h : virgateref12_Right.f k a0 = some r) :
    Calls Try.prog 81 #[.string a0] w fun e w' => e = .returned (.bool r) ∧ Drawn0 w w' := by
  have H : (virgateref12_Right.l0 k a0 0) = some r := h
  clear h
  have H' := Aside0.mk H
  clear H
  go_enter Try.func81, Try.ntmps81
  go_wp2
  go_loopg [3] k (fun kq v3 w' => ∃ (x3_1 : Int), v3 = .int .i64 x3_1 ∧ Aside0 (virgateref12_Right.l0 kq a0 x3_1 = some r) ∧ Aside0 (kq ≤ k) ∧ Drawn0 w w')
  case atStart => exact ⟨(0), (by first | rfl | (simp; done) | (simp [*]; done)), H', ⟨Nat.le_refl _⟩, by repeat (first | exact Drawn0.refl _ | apply Drawn0.step)⟩
  case round =>
    clear H'
    obtain ⟨x3_1, rfl, HA, HK1, ⟨m1, rfl⟩⟩ := hrel
    cases gk with
    | zero => exact absurd HA.out (by simp [virgateref12_Right.l0])
    | succ k1 =>
      have H := HA.out
      clear HA
      simp only [virgateref12_Right.l0] at H
      by_cases c2 : x3_1 < (a0.size : Int)
      · rw [if_pos c2] at H
        have c2b0 : decide (x3_1 < (a0.size : Int)) = true := decide_eq_true c2
        clear c2
        by_cases c3 : 0 ≤ x3_1
        · rw [if_pos c3] at H
          have c3b0 : decide (0 ≤ x3_1) = true := decide_eq_true c3
          clear c3
          by_cases c5 : (bt a0 x3_1) ≥ 97
          · rw [if_pos c5] at H
            have c5b0 : decide (97 ≤ (bt a0 x3_1)) = true := decide_eq_true c5
            clear c5
            by_cases c6 : (bt a0 x3_1) ≤ 122
            · rw [if_pos c6] at H
              have c6b0 : decide ((bt a0 x3_1) ≤ 122) = true := decide_eq_true c6
              clear c6
              have H' := Aside0.mk H
              clear H
              have p4 : 0 ≤ (x3_1 : Int) := of_decide_eq_true (by first | (with_reducible assumption) | assumption)
              have q4 : x3_1 < (a0.size : Int) := of_decide_eq_true (by first | (with_reducible assumption) | assumption)
              have hx4 := bt_at a0 x3_1
              replace p4 := eq_true p4
              replace q4 := eq_true q4
              go_wp2
              go_roundg k1
              case measure => have := HK1.out; omega
              case rel => exact ⟨(wrap64 (x3_1 + 1)), (by first | rfl | (simp; done) | (simp [*]; done)), H', ⟨by have := HK1.out; omega⟩, by repeat (first | exact Drawn0.refl _ | apply Drawn0.step)⟩
            · rw [if_neg c6] at H
              have c6b0 : decide ((bt a0 x3_1) ≤ 122) = false := decide_eq_false c6
              clear c6
              by_cases c7 : (bt a0 x3_1) ≥ 65
              · rw [if_pos c7] at H
                have c7b0 : decide (65 ≤ (bt a0 x3_1)) = true := decide_eq_true c7
                clear c7
                by_cases c8 : (bt a0 x3_1) ≤ 90
                · rw [if_pos c8] at H
                  have c8b0 : decide ((bt a0 x3_1) ≤ 90) = true := decide_eq_true c8
                  clear c8
                  have H' := Aside0.mk H
                  clear H
                  have p4 : 0 ≤ (x3_1 : Int) := of_decide_eq_true (by first | (with_reducible assumption) | assumption)
                  have q4 : x3_1 < (a0.size : Int) := of_decide_eq_true (by first | (with_reducible assumption) | assumption)
                  have hx4 := bt_at a0 x3_1
                  replace p4 := eq_true p4
                  replace q4 := eq_true q4
                  go_wp2
                  go_roundg k1
                  case measure => have := HK1.out; omega
                  case rel => exact ⟨(wrap64 (x3_1 + 1)), (by first | rfl | (simp; done) | (simp [*]; done)), H', ⟨by have := HK1.out; omega⟩, by repeat (first | exact Drawn0.refl _ | apply Drawn0.step)⟩
                · rw [if_neg c8] at H
                  have c8b0 : decide ((bt a0 x3_1) ≤ 90) = false := decide_eq_false c8
                  clear c8
                  by_cases c9 : (bt a0 x3_1) ≥ 48
                  · rw [if_pos c9] at H
                    have c9b0 : decide (48 ≤ (bt a0 x3_1)) = true := decide_eq_true c9
                    clear c9
                    by_cases c10 : (bt a0 x3_1) ≤ 57
                    · rw [if_pos c10] at H
                      have c10b0 : decide ((bt a0 x3_1) ≤ 57) = true := decide_eq_true c10
                      clear c10
                      have H' := Aside0.mk H
                      clear H
                      have p4 : 0 ≤ (x3_1 : Int) := of_decide_eq_true (by first | (with_reducible assumption) | assumption)
                      have q4 : x3_1 < (a0.size : Int) := of_decide_eq_true (by first | (with_reducible assumption) | assumption)
                      have hx4 := bt_at a0 x3_1
                      replace p4 := eq_true p4
                      replace q4 := eq_true q4
                      go_wp2
                      go_roundg k1
                      case measure => have := HK1.out; omega
                      case rel => exact ⟨(wrap64 (x3_1 + 1)), (by first | rfl | (simp; done) | (simp [*]; done)), H', ⟨by have := HK1.out; omega⟩, by repeat (first | exact Drawn0.refl _ | apply Drawn0.step)⟩
                    · rw [if_neg c10] at H
                      have c10b0 : decide ((bt a0 x3_1) ≤ 57) = false := decide_eq_false c10
                      clear c10
                      by_cases c11 : (bt a0 x3_1) = 46
                      · rw [if_pos c11] at H
                        have c11b0 : ((bt a0 x3_1) == 46) = true := beq_iff_eq.mpr c11
                        have c11b1 : ((bt a0 x3_1) != 46) = false := bne_eq_false_iff_eq.mpr c11
                        clear c11
                        have H' := Aside0.mk H
                        clear H
                        have p4 : 0 ≤ (x3_1 : Int) := of_decide_eq_true (by first | (with_reducible assumption) | assumption)
                        have q4 : x3_1 < (a0.size : Int) := of_decide_eq_true (by first | (with_reducible assumption) | assumption)
                        have hx4 := bt_at a0 x3_1
                        replace p4 := eq_true p4
                        replace q4 := eq_true q4
                        go_wp2
                        go_roundg k1
                        case measure => have := HK1.out; omega
                        case rel => exact ⟨(wrap64 (x3_1 + 1)), (by first | rfl | (simp; done) | (simp [*]; done)), H', ⟨by have := HK1.out; omega⟩, by repeat (first | exact Drawn0.refl _ | apply Drawn0.step)⟩
                      · rw [if_neg c11] at H
                        have c11b0 : ((bt a0 x3_1) == 46) = false := beq_eq_false_iff_ne.mpr c11
                        have c11b1 : ((bt a0 x3_1) != 46) = true := bne_iff_ne.mpr c11
                        by_cases c12 : (bt a0 x3_1) = 45
                        · rw [if_pos c12] at H
                          have c12b0 : ((bt a0 x3_1) == 45) = true := beq_iff_eq.mpr c12
                          have c12b1 : ((bt a0 x3_1) != 45) = false := bne_eq_false_iff_eq.mpr c12
                          clear c12
                          have H' := Aside0.mk H
                          clear H
                          have p4 : 0 ≤ (x3_1 : Int) := of_decide_eq_true (by first | (with_reducible assumption) | assumption)
                          have q4 : x3_1 < (a0.size : Int) := of_decide_eq_true (by first | (with_reducible assumption) | assumption)
                          have hx4 := bt_at a0 x3_1
                          replace p4 := eq_true p4
                          replace q4 := eq_true q4
                          go_wp2
                          go_roundg k1
                          case measure => have := HK1.out; omega
                          case rel => exact ⟨(wrap64 (x3_1 + 1)), (by first | rfl | (simp; done) | (simp [*]; done)), H', ⟨by have := HK1.out; omega⟩, by repeat (first | exact Drawn0.refl _ | apply Drawn0.step)⟩
                        · rw [if_neg c12] at H
                          have c12b0 : ((bt a0 x3_1) == 45) = false := beq_eq_false_iff_ne.mpr c12
                          have c12b1 : ((bt a0 x3_1) != 45) = true := bne_iff_ne.mpr c12
                          by_cases c13 : ((bt a0 x3_1) = 95)
                          · rw [if_pos c13] at H
                            have c13b0 : ((bt a0 x3_1) == 95) = true := beq_iff_eq.mpr c13
                            have c13b1 : ((bt a0 x3_1) != 95) = false := bne_eq_false_iff_eq.mpr c13
                            clear c13
                            have H' := Aside0.mk H
                            clear H
                            have p4 : 0 ≤ (x3_1 : Int) := of_decide_eq_true (by first | (with_reducible assumption) | assumption)
                            have q4 : x3_1 < (a0.size : Int) := of_decide_eq_true (by first | (with_reducible assumption) | assumption)
                            have hx4 := bt_at a0 x3_1
                            replace p4 := eq_true p4
                            replace q4 := eq_true q4
                            go_wp2
                            go_roundg k1
                            case measure => have := HK1.out; omega
                            case rel => exact ⟨(wrap64 (x3_1 + 1)), (by first | rfl | (simp; done) | (simp [*]; done)), H', ⟨by have := HK1.out; omega⟩, by repeat (first | exact Drawn0.refl _ | apply Drawn0.step)⟩
                          · rw [if_neg c13] at H
                            have c13b0 : ((bt a0 x3_1) == 95) = false := beq_eq_false_iff_ne.mpr c13
                            have c13b1 : ((bt a0 x3_1) != 95) = true := bne_iff_ne.mpr c13
                            obtain rfl := Option.some.inj H
                            have p4 : 0 ≤ (x3_1 : Int) := of_decide_eq_true (by first | (with_reducible assumption) | assumption)
                            have q4 : x3_1 < (a0.size : Int) := of_decide_eq_true (by first | (with_reducible assumption) | assumption)
                            have hx4 := bt_at a0 x3_1
                            replace p4 := eq_true p4
                            replace q4 := eq_true q4
                            go_wp2
                            go_ret
                            exact ⟨by first | rfl | (simp; done) | (simp [*]; done), by repeat (first | exact Drawn0.refl _ | apply Drawn0.step)⟩
                  · rw [if_neg c9] at H
                    have c9b0 : decide (48 ≤ (bt a0 x3_1)) = false := decide_eq_false c9
                    clear c9
                    by_cases c14 : (bt a0 x3_1) = 46
                    · rw [if_pos c14] at H
                      have c14b0 : ((bt a0 x3_1) == 46) = true := beq_iff_eq.mpr c14
                      have c14b1 : ((bt a0 x3_1) != 46) = false := bne_eq_false_iff_eq.mpr c14
                      clear c14
                      have H' := Aside0.mk H
                      clear H
                      have p4 : 0 ≤ (x3_1 : Int) := of_decide_eq_true (by first | (with_reducible assumption) | assumption)
                      have q4 : x3_1 < (a0.size : Int) := of_decide_eq_true (by first | (with_reducible assumption) | assumption)
                      have hx4 := bt_at a0 x3_1
                      replace p4 := eq_true p4
                      replace q4 := eq_true q4
                      go_wp2
                      go_roundg k1
                      case measure => have := HK1.out; omega
                      case rel => exact ⟨(wrap64 (x3_1 + 1)), (by first | rfl | (simp; done) | (simp [*]; done)), H', ⟨by have := HK1.out; omega⟩, by repeat (first | exact Drawn0.refl _ | apply Drawn0.step)⟩
                    · rw [if_neg c14] at H
                      have c14b0 : ((bt a0 x3_1) == 46) = false := beq_eq_false_iff_ne.mpr c14
                      have c14b1 : ((bt a0 x3_1) != 46) = true := bne_iff_ne.mpr c14
                      by_cases c15 : (bt a0 x3_1) = 45
                      · rw [if_pos c15] at H
                        have c15b0 : ((bt a0 x3_1) == 45) = true := beq_iff_eq.mpr c15
                        have c15b1 : ((bt a0 x3_1) != 45) = false := bne_eq_false_iff_eq.mpr c15
                        clear c15
                        have H' := Aside0.mk H
                        clear H
                        have p4 : 0 ≤ (x3_1 : Int) := of_decide_eq_true (by first | (with_reducible assumption) | assumption)
                        have q4 : x3_1 < (a0.size : Int) := of_decide_eq_true (by first | (with_reducible assumption) | assumption)
                        have hx4 := bt_at a0 x3_1
                        replace p4 := eq_true p4
                        replace q4 := eq_true q4
                        go_wp2
                        go_roundg k1
                        case measure => have := HK1.out; omega
                        case rel => exact ⟨(wrap64 (x3_1 + 1)), (by first | rfl | (simp; done) | (simp [*]; done)), H', ⟨by have := HK1.out; omega⟩, by repeat (first | exact Drawn0.refl _ | apply Drawn0.step)⟩
                      · rw [if_neg c15] at H
                        have c15b0 : ((bt a0 x3_1) == 45) = false := beq_eq_false_iff_ne.mpr c15
                        have c15b1 : ((bt a0 x3_1) != 45) = true := bne_iff_ne.mpr c15
                        by_cases c16 : ((bt a0 x3_1) = 95)
                        · rw [if_pos c16] at H
                          have c16b0 : ((bt a0 x3_1) == 95) = true := beq_iff_eq.mpr c16
                          have c16b1 : ((bt a0 x3_1) != 95) = false := bne_eq_false_iff_eq.mpr c16
                          clear c16
                          have H' := Aside0.mk H
                          clear H
                          have p4 : 0 ≤ (x3_1 : Int) := of_decide_eq_true (by first | (with_reducible assumption) | assumption)
                          have q4 : x3_1 < (a0.size : Int) := of_decide_eq_true (by first | (with_reducible assumption) | assumption)
                          have hx4 := bt_at a0 x3_1
                          replace p4 := eq_true p4
                          replace q4 := eq_true q4
                          go_wp2
                          go_roundg k1
                          case measure => have := HK1.out; omega
                          case rel => exact ⟨(wrap64 (x3_1 + 1)), (by first | rfl | (simp; done) | (simp [*]; done)), H', ⟨by have := HK1.out; omega⟩, by repeat (first | exact Drawn0.refl _ | apply Drawn0.step)⟩
                        · rw [if_neg c16] at H
                          have c16b0 : ((bt a0 x3_1) == 95) = false := beq_eq_false_iff_ne.mpr c16
                          have c16b1 : ((bt a0 x3_1) != 95) = true := bne_iff_ne.mpr c16
                          obtain rfl := Option.some.inj H
                          have p4 : 0 ≤ (x3_1 : Int) := of_decide_eq_true (by first | (with_reducible assumption) | assumption)
                          have q4 : x3_1 < (a0.size : Int) := of_decide_eq_true (by first | (with_reducible assumption) | assumption)
                          have hx4 := bt_at a0 x3_1
                          replace p4 := eq_true p4
                          replace q4 := eq_true q4
                          go_wp2
                          go_ret
                          exact ⟨by first | rfl | (simp; done) | (simp [*]; done), by repeat (first | exact Drawn0.refl _ | apply Drawn0.step)⟩
              · rw [if_neg c7] at H
                have c7b0 : decide (65 ≤ (bt a0 x3_1)) = false := decide_eq_false c7
                clear c7
                by_cases c17 : (bt a0 x3_1) ≥ 48
                · rw [if_pos c17] at H
                  have c17b0 : decide (48 ≤ (bt a0 x3_1)) = true := decide_eq_true c17
                  clear c17
                  by_cases c18 : (bt a0 x3_1) ≤ 57
                  · rw [if_pos c18] at H
                    have c18b0 : decide ((bt a0 x3_1) ≤ 57) = true := decide_eq_true c18
                    clear c18
                    have H' := Aside0.mk H
                    clear H
                    have p4 : 0 ≤ (x3_1 : Int) := of_decide_eq_true (by first | (with_reducible assumption) | assumption)
                    have q4 : x3_1 < (a0.size : Int) := of_decide_eq_true (by first | (with_reducible assumption) | assumption)
                    have hx4 := bt_at a0 x3_1
                    replace p4 := eq_true p4
                    replace q4 := eq_true q4
                    go_wp2
                    go_roundg k1
                    case measure => have := HK1.out; omega
                    case rel => exact ⟨(wrap64 (x3_1 + 1)), (by first | rfl | (simp; done) | (simp [*]; done)), H', ⟨by have := HK1.out; omega⟩, by repeat (first | exact Drawn0.refl _ | apply Drawn0.step)⟩
                  · rw [if_neg c18] at H
                    have c18b0 : decide ((bt a0 x3_1) ≤ 57) = false := decide_eq_false c18
                    clear c18
                    by_cases c19 : (bt a0 x3_1) = 46
                    · rw [if_pos c19] at H
                      have c19b0 : ((bt a0 x3_1) == 46) = true := beq_iff_eq.mpr c19
                      have c19b1 : ((bt a0 x3_1) != 46) = false := bne_eq_false_iff_eq.mpr c19
                      clear c19
                      have H' := Aside0.mk H
                      clear H
                      have p4 : 0 ≤ (x3_1 : Int) := of_decide_eq_true (by first | (with_reducible assumption) | assumption)
                      have q4 : x3_1 < (a0.size : Int) := of_decide_eq_true (by first | (with_reducible assumption) | assumption)
                      have hx4 := bt_at a0 x3_1
                      replace p4 := eq_true p4
                      replace q4 := eq_true q4
                      go_wp2
                      go_roundg k1
                      case measure => have := HK1.out; omega
                      case rel => exact ⟨(wrap64 (x3_1 + 1)), (by first | rfl | (simp; done) | (simp [*]; done)), H', ⟨by have := HK1.out; omega⟩, by repeat (first | exact Drawn0.refl _ | apply Drawn0.step)⟩
                    · rw [if_neg c19] at H
                      have c19b0 : ((bt a0 x3_1) == 46) = false := beq_eq_false_iff_ne.mpr c19
                      have c19b1 : ((bt a0 x3_1) != 46) = true := bne_iff_ne.mpr c19
                      by_cases c20 : (bt a0 x3_1) = 45
                      · rw [if_pos c20] at H
                        have c20b0 : ((bt a0 x3_1) == 45) = true := beq_iff_eq.mpr c20
                        have c20b1 : ((bt a0 x3_1) != 45) = false := bne_eq_false_iff_eq.mpr c20
                        clear c20
                        have H' := Aside0.mk H
                        clear H
                        have p4 : 0 ≤ (x3_1 : Int) := of_decide_eq_true (by first | (with_reducible assumption) | assumption)
                        have q4 : x3_1 < (a0.size : Int) := of_decide_eq_true (by first | (with_reducible assumption) | assumption)
                        have hx4 := bt_at a0 x3_1
                        replace p4 := eq_true p4
                        replace q4 := eq_true q4
                        go_wp2
                        go_roundg k1
                        case measure => have := HK1.out; omega
                        case rel => exact ⟨(wrap64 (x3_1 + 1)), (by first | rfl | (simp; done) | (simp [*]; done)), H', ⟨by have := HK1.out; omega⟩, by repeat (first | exact Drawn0.refl _ | apply Drawn0.step)⟩
                      · rw [if_neg c20] at H
                        have c20b0 : ((bt a0 x3_1) == 45) = false := beq_eq_false_iff_ne.mpr c20
                        have c20b1 : ((bt a0 x3_1) != 45) = true := bne_iff_ne.mpr c20
                        by_cases c21 : ((bt a0 x3_1) = 95)
                        · rw [if_pos c21] at H
                          have c21b0 : ((bt a0 x3_1) == 95) = true := beq_iff_eq.mpr c21
                          have c21b1 : ((bt a0 x3_1) != 95) = false := bne_eq_false_iff_eq.mpr c21
                          clear c21
                          have H' := Aside0.mk H
                          clear H
                          have p4 : 0 ≤ (x3_1 : Int) := of_decide_eq_true (by first | (with_reducible assumption) | assumption)
                          have q4 : x3_1 < (a0.size : Int) := of_decide_eq_true (by first | (with_reducible assumption) | assumption)
                          have hx4 := bt_at a0 x3_1
                          replace p4 := eq_true p4
                          replace q4 := eq_true q4
                          go_wp2
                          go_roundg k1
                          case measure => have := HK1.out; omega
                          case rel => exact ⟨(wrap64 (x3_1 + 1)), (by first | rfl | (simp; done) | (simp [*]; done)), H', ⟨by have := HK1.out; omega⟩, by repeat (first | exact Drawn0.refl _ | apply Drawn0.step)⟩
                        · rw [if_neg c21] at H
                          have c21b0 : ((bt a0 x3_1) == 95) = false := beq_eq_false_iff_ne.mpr c21
                          have c21b1 : ((bt a0 x3_1) != 95) = true := bne_iff_ne.mpr c21
                          obtain rfl := Option.some.inj H
                          have p4 : 0 ≤ (x3_1 : Int) := of_decide_eq_true (by first | (with_reducible assumption) | assumption)
                          have q4 : x3_1 < (a0.size : Int) := of_decide_eq_true (by first | (with_reducible assumption) | assumption)
                          have hx4 := bt_at a0 x3_1
                          replace p4 := eq_true p4
                          replace q4 := eq_true q4
                          go_wp2
                          go_ret
                          exact ⟨by first | rfl | (simp; done) | (simp [*]; done), by repeat (first | exact Drawn0.refl _ | apply Drawn0.step)⟩
                · rw [if_neg c17] at H
                  have c17b0 : decide (48 ≤ (bt a0 x3_1)) = false := decide_eq_false c17
                  clear c17
                  by_cases c22 : (bt a0 x3_1) = 46
                  · rw [if_pos c22] at H
                    have c22b0 : ((bt a0 x3_1) == 46) = true := beq_iff_eq.mpr c22
                    have c22b1 : ((bt a0 x3_1) != 46) = false := bne_eq_false_iff_eq.mpr c22
                    clear c22
                    have H' := Aside0.mk H
                    clear H
                    have p4 : 0 ≤ (x3_1 : Int) := of_decide_eq_true (by first | (with_reducible assumption) | assumption)
                    have q4 : x3_1 < (a0.size : Int) := of_decide_eq_true (by first | (with_reducible assumption) | assumption)
                    have hx4 := bt_at a0 x3_1
                    replace p4 := eq_true p4
                    replace q4 := eq_true q4
                    go_wp2
                    go_roundg k1
                    case measure => have := HK1.out; omega
                    case rel => exact ⟨(wrap64 (x3_1 + 1)), (by first | rfl | (simp; done) | (simp [*]; done)), H', ⟨by have := HK1.out; omega⟩, by repeat (first | exact Drawn0.refl _ | apply Drawn0.step)⟩
                  · rw [if_neg c22] at H
                    have c22b0 : ((bt a0 x3_1) == 46) = false := beq_eq_false_iff_ne.mpr c22
                    have c22b1 : ((bt a0 x3_1) != 46) = true := bne_iff_ne.mpr c22
                    by_cases c23 : (bt a0 x3_1) = 45
                    · rw [if_pos c23] at H
                      have c23b0 : ((bt a0 x3_1) == 45) = true := beq_iff_eq.mpr c23
                      have c23b1 : ((bt a0 x3_1) != 45) = false := bne_eq_false_iff_eq.mpr c23
                      clear c23
                      have H' := Aside0.mk H
                      clear H
                      have p4 : 0 ≤ (x3_1 : Int) := of_decide_eq_true (by first | (with_reducible assumption) | assumption)
                      have q4 : x3_1 < (a0.size : Int) := of_decide_eq_true (by first | (with_reducible assumption) | assumption)
                      have hx4 := bt_at a0 x3_1
                      replace p4 := eq_true p4
                      replace q4 := eq_true q4
                      go_wp2
                      go_roundg k1
                      case measure => have := HK1.out; omega
                      case rel => exact ⟨(wrap64 (x3_1 + 1)), (by first | rfl | (simp; done) | (simp [*]; done)), H', ⟨by have := HK1.out; omega⟩, by repeat (first | exact Drawn0.refl _ | apply Drawn0.step)⟩
                    · rw [if_neg c23] at H
                      have c23b0 : ((bt a0 x3_1) == 45) = false := beq_eq_false_iff_ne.mpr c23
                      have c23b1 : ((bt a0 x3_1) != 45) = true := bne_iff_ne.mpr c23
                      by_cases c24 : ((bt a0 x3_1) = 95)
                      · rw [if_pos c24] at H
                        have c24b0 : ((bt a0 x3_1) == 95) = true := beq_iff_eq.mpr c24
                        have c24b1 : ((bt a0 x3_1) != 95) = false := bne_eq_false_iff_eq.mpr c24
                        clear c24
                        have H' := Aside0.mk H
                        clear H
                        have p4 : 0 ≤ (x3_1 : Int) := of_decide_eq_true (by first | (with_reducible assumption) | assumption)
                        have q4 : x3_1 < (a0.size : Int) := of_decide_eq_true (by first | (with_reducible assumption) | assumption)
                        have hx4 := bt_at a0 x3_1
                        replace p4 := eq_true p4
                        replace q4 := eq_true q4
                        go_wp2
                        go_roundg k1
                        case measure => have := HK1.out; omega
                        case rel => exact ⟨(wrap64 (x3_1 + 1)), (by first | rfl | (simp; done) | (simp [*]; done)), H', ⟨by have := HK1.out; omega⟩, by repeat (first | exact Drawn0.refl _ | apply Drawn0.step)⟩
                      · rw [if_neg c24] at H
                        have c24b0 : ((bt a0 x3_1) == 95) = false := beq_eq_false_iff_ne.mpr c24
                        have c24b1 : ((bt a0 x3_1) != 95) = true := bne_iff_ne.mpr c24
                        obtain rfl := Option.some.inj H
                        have p4 : 0 ≤ (x3_1 : Int) := of_decide_eq_true (by first | (with_reducible assumption) | assumption)
                        have q4 : x3_1 < (a0.size : Int) := of_decide_eq_true (by first | (with_reducible assumption) | assumption)
                        have hx4 := bt_at a0 x3_1
                        replace p4 := eq_true p4
                        replace q4 := eq_true q4
                        go_wp2
                        go_ret
                        exact ⟨by first | rfl | (simp; done) | (simp [*]; done), by repeat (first | exact Drawn0.refl _ | apply Drawn0.step)⟩
          · rw [if_neg c5] at H
            have c5b0 : decide (97 ≤ (bt a0 x3_1)) = false := decide_eq_false c5
            clear c5
            by_cases c25 : (bt a0 x3_1) ≥ 65
            · rw [if_pos c25] at H
              have c25b0 : decide (65 ≤ (bt a0 x3_1)) = true := decide_eq_true c25
              clear c25
              by_cases c26 : (bt a0 x3_1) ≤ 90
              · rw [if_pos c26] at H
                have c26b0 : decide ((bt a0 x3_1) ≤ 90) = true := decide_eq_true c26
                clear c26
                have H' := Aside0.mk H
                clear H
                have p4 : 0 ≤ (x3_1 : Int) := of_decide_eq_true (by first | (with_reducible assumption) | assumption)
                have q4 : x3_1 < (a0.size : Int) := of_decide_eq_true (by first | (with_reducible assumption) | assumption)
                have hx4 := bt_at a0 x3_1
                replace p4 := eq_true p4
                replace q4 := eq_true q4
                go_wp2
                go_roundg k1
                case measure => have := HK1.out; omega
                case rel => exact ⟨(wrap64 (x3_1 + 1)), (by first | rfl | (simp; done) | (simp [*]; done)), H', ⟨by have := HK1.out; omega⟩, by repeat (first | exact Drawn0.refl _ | apply Drawn0.step)⟩
              · rw [if_neg c26] at H
                have c26b0 : decide ((bt a0 x3_1) ≤ 90) = false := decide_eq_false c26
                clear c26
                by_cases c27 : (bt a0 x3_1) ≥ 48
                · rw [if_pos c27] at H
                  have c27b0 : decide (48 ≤ (bt a0 x3_1)) = true := decide_eq_true c27
                  clear c27
                  by_cases c28 : (bt a0 x3_1) ≤ 57
                  · rw [if_pos c28] at H
                    have c28b0 : decide ((bt a0 x3_1) ≤ 57) = true := decide_eq_true c28
                    clear c28
                    have H' := Aside0.mk H
                    clear H
                    have p4 : 0 ≤ (x3_1 : Int) := of_decide_eq_true (by first | (with_reducible assumption) | assumption)
                    have q4 : x3_1 < (a0.size : Int) := of_decide_eq_true (by first | (with_reducible assumption) | assumption)
                    have hx4 := bt_at a0 x3_1
                    replace p4 := eq_true p4
                    replace q4 := eq_true q4
                    go_wp2
                    go_roundg k1
                    case measure => have := HK1.out; omega
                    case rel => exact ⟨(wrap64 (x3_1 + 1)), (by first | rfl | (simp; done) | (simp [*]; done)), H', ⟨by have := HK1.out; omega⟩, by repeat (first | exact Drawn0.refl _ | apply Drawn0.step)⟩
                  · rw [if_neg c28] at H
                    have c28b0 : decide ((bt a0 x3_1) ≤ 57) = false := decide_eq_false c28
                    clear c28
                    by_cases c29 : (bt a0 x3_1) = 46
                    · rw [if_pos c29] at H
                      have c29b0 : ((bt a0 x3_1) == 46) = true := beq_iff_eq.mpr c29
                      have c29b1 : ((bt a0 x3_1) != 46) = false := bne_eq_false_iff_eq.mpr c29
                      clear c29
                      have H' := Aside0.mk H
                      clear H
                      have p4 : 0 ≤ (x3_1 : Int) := of_decide_eq_true (by first | (with_reducible assumption) | assumption)
                      have q4 : x3_1 < (a0.size : Int) := of_decide_eq_true (by first | (with_reducible assumption) | assumption)
                      have hx4 := bt_at a0 x3_1
                      replace p4 := eq_true p4
                      replace q4 := eq_true q4
                      go_wp2
                      go_roundg k1
                      case measure => have := HK1.out; omega
                      case rel => exact ⟨(wrap64 (x3_1 + 1)), (by first | rfl | (simp; done) | (simp [*]; done)), H', ⟨by have := HK1.out; omega⟩, by repeat (first | exact Drawn0.refl _ | apply Drawn0.step)⟩
                    · rw [if_neg c29] at H
                      have c29b0 : ((bt a0 x3_1) == 46) = false := beq_eq_false_iff_ne.mpr c29
                      have c29b1 : ((bt a0 x3_1) != 46) = true := bne_iff_ne.mpr c29
                      by_cases c30 : (bt a0 x3_1) = 45
                      · rw [if_pos c30] at H
                        have c30b0 : ((bt a0 x3_1) == 45) = true := beq_iff_eq.mpr c30
                        have c30b1 : ((bt a0 x3_1) != 45) = false := bne_eq_false_iff_eq.mpr c30
                        clear c30
                        have H' := Aside0.mk H
                        clear H
                        have p4 : 0 ≤ (x3_1 : Int) := of_decide_eq_true (by first | (with_reducible assumption) | assumption)
                        have q4 : x3_1 < (a0.size : Int) := of_decide_eq_true (by first | (with_reducible assumption) | assumption)
                        have hx4 := bt_at a0 x3_1
                        replace p4 := eq_true p4
                        replace q4 := eq_true q4
                        go_wp2
                        go_roundg k1
                        case measure => have := HK1.out; omega
                        case rel => exact ⟨(wrap64 (x3_1 + 1)), (by first | rfl | (simp; done) | (simp [*]; done)), H', ⟨by have := HK1.out; omega⟩, by repeat (first | exact Drawn0.refl _ | apply Drawn0.step)⟩
                      · rw [if_neg c30] at H
                        have c30b0 : ((bt a0 x3_1) == 45) = false := beq_eq_false_iff_ne.mpr c30
                        have c30b1 : ((bt a0 x3_1) != 45) = true := bne_iff_ne.mpr c30
                        by_cases c31 : ((bt a0 x3_1) = 95)
                        · rw [if_pos c31] at H
                          have c31b0 : ((bt a0 x3_1) == 95) = true := beq_iff_eq.mpr c31
                          have c31b1 : ((bt a0 x3_1) != 95) = false := bne_eq_false_iff_eq.mpr c31
                          clear c31
                          have H' := Aside0.mk H
                          clear H
                          have p4 : 0 ≤ (x3_1 : Int) := of_decide_eq_true (by first | (with_reducible assumption) | assumption)
                          have q4 : x3_1 < (a0.size : Int) := of_decide_eq_true (by first | (with_reducible assumption) | assumption)
                          have hx4 := bt_at a0 x3_1
                          replace p4 := eq_true p4
                          replace q4 := eq_true q4
                          go_wp2
                          go_roundg k1
                          case measure => have := HK1.out; omega
                          case rel => exact ⟨(wrap64 (x3_1 + 1)), (by first | rfl | (simp; done) | (simp [*]; done)), H', ⟨by have := HK1.out; omega⟩, by repeat (first | exact Drawn0.refl _ | apply Drawn0.step)⟩
                        · rw [if_neg c31] at H
                          have c31b0 : ((bt a0 x3_1) == 95) = false := beq_eq_false_iff_ne.mpr c31
                          have c31b1 : ((bt a0 x3_1) != 95) = true := bne_iff_ne.mpr c31
                          obtain rfl := Option.some.inj H
                          have p4 : 0 ≤ (x3_1 : Int) := of_decide_eq_true (by first | (with_reducible assumption) | assumption)
                          have q4 : x3_1 < (a0.size : Int) := of_decide_eq_true (by first | (with_reducible assumption) | assumption)
                          have hx4 := bt_at a0 x3_1
                          replace p4 := eq_true p4
                          replace q4 := eq_true q4
                          go_wp2
                          go_ret
                          exact ⟨by first | rfl | (simp; done) | (simp [*]; done), by repeat (first | exact Drawn0.refl _ | apply Drawn0.step)⟩
                · rw [if_neg c27] at H
                  have c27b0 : decide (48 ≤ (bt a0 x3_1)) = false := decide_eq_false c27
                  clear c27
                  by_cases c32 : (bt a0 x3_1) = 46
                  · rw [if_pos c32] at H
                    have c32b0 : ((bt a0 x3_1) == 46) = true := beq_iff_eq.mpr c32
                    have c32b1 : ((bt a0 x3_1) != 46) = false := bne_eq_false_iff_eq.mpr c32
                    clear c32
                    have H' := Aside0.mk H
                    clear H
                    have p4 : 0 ≤ (x3_1 : Int) := of_decide_eq_true (by first | (with_reducible assumption) | assumption)
                    have q4 : x3_1 < (a0.size : Int) := of_decide_eq_true (by first | (with_reducible assumption) | assumption)
                    have hx4 := bt_at a0 x3_1
                    replace p4 := eq_true p4
                    replace q4 := eq_true q4
                    go_wp2
                    go_roundg k1
                    case measure => have := HK1.out; omega
                    case rel => exact ⟨(wrap64 (x3_1 + 1)), (by first | rfl | (simp; done) | (simp [*]; done)), H', ⟨by have := HK1.out; omega⟩, by repeat (first | exact Drawn0.refl _ | apply Drawn0.step)⟩
                  · rw [if_neg c32] at H
                    have c32b0 : ((bt a0 x3_1) == 46) = false := beq_eq_false_iff_ne.mpr c32
                    have c32b1 : ((bt a0 x3_1) != 46) = true := bne_iff_ne.mpr c32
                    by_cases c33 : (bt a0 x3_1) = 45
                    · rw [if_pos c33] at H
                      have c33b0 : ((bt a0 x3_1) == 45) = true := beq_iff_eq.mpr c33
                      have c33b1 : ((bt a0 x3_1) != 45) = false := bne_eq_false_iff_eq.mpr c33
                      clear c33
                      have H' := Aside0.mk H
                      clear H
                      have p4 : 0 ≤ (x3_1 : Int) := of_decide_eq_true (by first | (with_reducible assumption) | assumption)
                      have q4 : x3_1 < (a0.size : Int) := of_decide_eq_true (by first | (with_reducible assumption) | assumption)
                      have hx4 := bt_at a0 x3_1
                      replace p4 := eq_true p4
                      replace q4 := eq_true q4
                      go_wp2
                      go_roundg k1
                      case measure => have := HK1.out; omega
                      case rel => exact ⟨(wrap64 (x3_1 + 1)), (by first | rfl | (simp; done) | (simp [*]; done)), H', ⟨by have := HK1.out; omega⟩, by repeat (first | exact Drawn0.refl _ | apply Drawn0.step)⟩
                    · rw [if_neg c33] at H
                      have c33b0 : ((bt a0 x3_1) == 45) = false := beq_eq_false_iff_ne.mpr c33
                      have c33b1 : ((bt a0 x3_1) != 45) = true := bne_iff_ne.mpr c33
                      by_cases c34 : ((bt a0 x3_1) = 95)
                      · rw [if_pos c34] at H
                        have c34b0 : ((bt a0 x3_1) == 95) = true := beq_iff_eq.mpr c34
                        have c34b1 : ((bt a0 x3_1) != 95) = false := bne_eq_false_iff_eq.mpr c34
                        clear c34
                        have H' := Aside0.mk H
                        clear H
                        have p4 : 0 ≤ (x3_1 : Int) := of_decide_eq_true (by first | (with_reducible assumption) | assumption)
                        have q4 : x3_1 < (a0.size : Int) := of_decide_eq_true (by first | (with_reducible assumption) | assumption)
                        have hx4 := bt_at a0 x3_1
                        replace p4 := eq_true p4
                        replace q4 := eq_true q4
                        go_wp2
                        go_roundg k1
                        case measure => have := HK1.out; omega
                        case rel => exact ⟨(wrap64 (x3_1 + 1)), (by first | rfl | (simp; done) | (simp [*]; done)), H', ⟨by have := HK1.out; omega⟩, by repeat (first | exact Drawn0.refl _ | apply Drawn0.step)⟩
                      · rw [if_neg c34] at H
                        have c34b0 : ((bt a0 x3_1) == 95) = false := beq_eq_false_iff_ne.mpr c34
                        have c34b1 : ((bt a0 x3_1) != 95) = true := bne_iff_ne.mpr c34
                        obtain rfl := Option.some.inj H
                        have p4 : 0 ≤ (x3_1 : Int) := of_decide_eq_true (by first | (with_reducible assumption) | assumption)
                        have q4 : x3_1 < (a0.size : Int) := of_decide_eq_true (by first | (with_reducible assumption) | assumption)
                        have hx4 := bt_at a0 x3_1
                        replace p4 := eq_true p4
                        replace q4 := eq_true q4
                        go_wp2
                        go_ret
                        exact ⟨by first | rfl | (simp; done) | (simp [*]; done), by repeat (first | exact Drawn0.refl _ | apply Drawn0.step)⟩
            · rw [if_neg c25] at H
              have c25b0 : decide (65 ≤ (bt a0 x3_1)) = false := decide_eq_false c25
              clear c25
              by_cases c35 : (bt a0 x3_1) ≥ 48
              · rw [if_pos c35] at H
                have c35b0 : decide (48 ≤ (bt a0 x3_1)) = true := decide_eq_true c35
                clear c35
                by_cases c36 : (bt a0 x3_1) ≤ 57
                · rw [if_pos c36] at H
                  have c36b0 : decide ((bt a0 x3_1) ≤ 57) = true := decide_eq_true c36
                  clear c36
                  have H' := Aside0.mk H
                  clear H
                  have p4 : 0 ≤ (x3_1 : Int) := of_decide_eq_true (by first | (with_reducible assumption) | assumption)
                  have q4 : x3_1 < (a0.size : Int) := of_decide_eq_true (by first | (with_reducible assumption) | assumption)
                  have hx4 := bt_at a0 x3_1
                  replace p4 := eq_true p4
                  replace q4 := eq_true q4
                  go_wp2
                  go_roundg k1
                  case measure => have := HK1.out; omega
                  case rel => exact ⟨(wrap64 (x3_1 + 1)), (by first | rfl | (simp; done) | (simp [*]; done)), H', ⟨by have := HK1.out; omega⟩, by repeat (first | exact Drawn0.refl _ | apply Drawn0.step)⟩
                · rw [if_neg c36] at H
                  have c36b0 : decide ((bt a0 x3_1) ≤ 57) = false := decide_eq_false c36
                  clear c36
                  by_cases c37 : (bt a0 x3_1) = 46
                  · rw [if_pos c37] at H
                    have c37b0 : ((bt a0 x3_1) == 46) = true := beq_iff_eq.mpr c37
                    have c37b1 : ((bt a0 x3_1) != 46) = false := bne_eq_false_iff_eq.mpr c37
                    clear c37
                    have H' := Aside0.mk H
                    clear H
                    have p4 : 0 ≤ (x3_1 : Int) := of_decide_eq_true (by first | (with_reducible assumption) | assumption)
                    have q4 : x3_1 < (a0.size : Int) := of_decide_eq_true (by first | (with_reducible assumption) | assumption)
                    have hx4 := bt_at a0 x3_1
                    replace p4 := eq_true p4
                    replace q4 := eq_true q4
                    go_wp2
                    go_roundg k1
                    case measure => have := HK1.out; omega
                    case rel => exact ⟨(wrap64 (x3_1 + 1)), (by first | rfl | (simp; done) | (simp [*]; done)), H', ⟨by have := HK1.out; omega⟩, by repeat (first | exact Drawn0.refl _ | apply Drawn0.step)⟩
                  · rw [if_neg c37] at H
                    have c37b0 : ((bt a0 x3_1) == 46) = false := beq_eq_false_iff_ne.mpr c37
                    have c37b1 : ((bt a0 x3_1) != 46) = true := bne_iff_ne.mpr c37
                    by_cases c38 : (bt a0 x3_1) = 45
                    · rw [if_pos c38] at H
                      have c38b0 : ((bt a0 x3_1) == 45) = true := beq_iff_eq.mpr c38
                      have c38b1 : ((bt a0 x3_1) != 45) = false := bne_eq_false_iff_eq.mpr c38
                      clear c38
                      have H' := Aside0.mk H
                      clear H
                      have p4 : 0 ≤ (x3_1 : Int) := of_decide_eq_true (by first | (with_reducible assumption) | assumption)
                      have q4 : x3_1 < (a0.size : Int) := of_decide_eq_true (by first | (with_reducible assumption) | assumption)
                      have hx4 := bt_at a0 x3_1
                      replace p4 := eq_true p4
                      replace q4 := eq_true q4
                      go_wp2
                      go_roundg k1
                      case measure => have := HK1.out; omega
                      case rel => exact ⟨(wrap64 (x3_1 + 1)), (by first | rfl | (simp; done) | (simp [*]; done)), H', ⟨by have := HK1.out; omega⟩, by repeat (first | exact Drawn0.refl _ | apply Drawn0.step)⟩
                    · rw [if_neg c38] at H
                      have c38b0 : ((bt a0 x3_1) == 45) = false := beq_eq_false_iff_ne.mpr c38
                      have c38b1 : ((bt a0 x3_1) != 45) = true := bne_iff_ne.mpr c38
                      by_cases c39 : ((bt a0 x3_1) = 95)
                      · rw [if_pos c39] at H
                        have c39b0 : ((bt a0 x3_1) == 95) = true := beq_iff_eq.mpr c39
                        have c39b1 : ((bt a0 x3_1) != 95) = false := bne_eq_false_iff_eq.mpr c39
                        clear c39
                        have H' := Aside0.mk H
                        clear H
                        have p4 : 0 ≤ (x3_1 : Int) := of_decide_eq_true (by first | (with_reducible assumption) | assumption)
                        have q4 : x3_1 < (a0.size : Int) := of_decide_eq_true (by first | (with_reducible assumption) | assumption)
                        have hx4 := bt_at a0 x3_1
                        replace p4 := eq_true p4
                        replace q4 := eq_true q4
                        go_wp2
                        go_roundg k1
                        case measure => have := HK1.out; omega
                        case rel => exact ⟨(wrap64 (x3_1 + 1)), (by first | rfl | (simp; done) | (simp [*]; done)), H', ⟨by have := HK1.out; omega⟩, by repeat (first | exact Drawn0.refl _ | apply Drawn0.step)⟩
                      · rw [if_neg c39] at H
                        have c39b0 : ((bt a0 x3_1) == 95) = false := beq_eq_false_iff_ne.mpr c39
                        have c39b1 : ((bt a0 x3_1) != 95) = true := bne_iff_ne.mpr c39
                        obtain rfl := Option.some.inj H
                        have p4 : 0 ≤ (x3_1 : Int) := of_decide_eq_true (by first | (with_reducible assumption) | assumption)
                        have q4 : x3_1 < (a0.size : Int) := of_decide_eq_true (by first | (with_reducible assumption) | assumption)
                        have hx4 := bt_at a0 x3_1
                        replace p4 := eq_true p4
                        replace q4 := eq_true q4
                        go_wp2
                        go_ret
                        exact ⟨by first | rfl | (simp; done) | (simp [*]; done), by repeat (first | exact Drawn0.refl _ | apply Drawn0.step)⟩
              · rw [if_neg c35] at H
                have c35b0 : decide (48 ≤ (bt a0 x3_1)) = false := decide_eq_false c35
                clear c35
                by_cases c40 : (bt a0 x3_1) = 46
                · rw [if_pos c40] at H
                  have c40b0 : ((bt a0 x3_1) == 46) = true := beq_iff_eq.mpr c40
                  have c40b1 : ((bt a0 x3_1) != 46) = false := bne_eq_false_iff_eq.mpr c40
                  clear c40
                  have H' := Aside0.mk H
                  clear H
                  have p4 : 0 ≤ (x3_1 : Int) := of_decide_eq_true (by first | (with_reducible assumption) | assumption)
                  have q4 : x3_1 < (a0.size : Int) := of_decide_eq_true (by first | (with_reducible assumption) | assumption)
                  have hx4 := bt_at a0 x3_1
                  replace p4 := eq_true p4
                  replace q4 := eq_true q4
                  go_wp2
                  go_roundg k1
                  case measure => have := HK1.out; omega
                  case rel => exact ⟨(wrap64 (x3_1 + 1)), (by first | rfl | (simp; done) | (simp [*]; done)), H', ⟨by have := HK1.out; omega⟩, by repeat (first | exact Drawn0.refl _ | apply Drawn0.step)⟩
                · rw [if_neg c40] at H
                  have c40b0 : ((bt a0 x3_1) == 46) = false := beq_eq_false_iff_ne.mpr c40
                  have c40b1 : ((bt a0 x3_1) != 46) = true := bne_iff_ne.mpr c40
                  by_cases c41 : (bt a0 x3_1) = 45
                  · rw [if_pos c41] at H
                    have c41b0 : ((bt a0 x3_1) == 45) = true := beq_iff_eq.mpr c41
                    have c41b1 : ((bt a0 x3_1) != 45) = false := bne_eq_false_iff_eq.mpr c41
                    clear c41
                    have H' := Aside0.mk H
                    clear H
                    have p4 : 0 ≤ (x3_1 : Int) := of_decide_eq_true (by first | (with_reducible assumption) | assumption)
                    have q4 : x3_1 < (a0.size : Int) := of_decide_eq_true (by first | (with_reducible assumption) | assumption)
                    have hx4 := bt_at a0 x3_1
                    replace p4 := eq_true p4
                    replace q4 := eq_true q4
                    go_wp2
                    go_roundg k1
                    case measure => have := HK1.out; omega
                    case rel => exact ⟨(wrap64 (x3_1 + 1)), (by first | rfl | (simp; done) | (simp [*]; done)), H', ⟨by have := HK1.out; omega⟩, by repeat (first | exact Drawn0.refl _ | apply Drawn0.step)⟩
                  · rw [if_neg c41] at H
                    have c41b0 : ((bt a0 x3_1) == 45) = false := beq_eq_false_iff_ne.mpr c41
                    have c41b1 : ((bt a0 x3_1) != 45) = true := bne_iff_ne.mpr c41
                    by_cases c42 : ((bt a0 x3_1) = 95)
                    · rw [if_pos c42] at H
                      have c42b0 : ((bt a0 x3_1) == 95) = true := beq_iff_eq.mpr c42
                      have c42b1 : ((bt a0 x3_1) != 95) = false := bne_eq_false_iff_eq.mpr c42
                      clear c42
                      have H' := Aside0.mk H
                      clear H
                      have p4 : 0 ≤ (x3_1 : Int) := of_decide_eq_true (by first | (with_reducible assumption) | assumption)
                      have q4 : x3_1 < (a0.size : Int) := of_decide_eq_true (by first | (with_reducible assumption) | assumption)
                      have hx4 := bt_at a0 x3_1
                      replace p4 := eq_true p4
                      replace q4 := eq_true q4
                      go_wp2
                      go_roundg k1
                      case measure => have := HK1.out; omega
                      case rel => exact ⟨(wrap64 (x3_1 + 1)), (by first | rfl | (simp; done) | (simp [*]; done)), H', ⟨by have := HK1.out; omega⟩, by repeat (first | exact Drawn0.refl _ | apply Drawn0.step)⟩
                    · rw [if_neg c42] at H
                      have c42b0 : ((bt a0 x3_1) == 95) = false := beq_eq_false_iff_ne.mpr c42
                      have c42b1 : ((bt a0 x3_1) != 95) = true := bne_iff_ne.mpr c42
                      obtain rfl := Option.some.inj H
                      have p4 : 0 ≤ (x3_1 : Int) := of_decide_eq_true (by first | (with_reducible assumption) | assumption)
                      have q4 : x3_1 < (a0.size : Int) := of_decide_eq_true (by first | (with_reducible assumption) | assumption)
                      have hx4 := bt_at a0 x3_1
                      replace p4 := eq_true p4
                      replace q4 := eq_true q4
                      go_wp2
                      go_ret
                      exact ⟨by first | rfl | (simp; done) | (simp [*]; done), by repeat (first | exact Drawn0.refl _ | apply Drawn0.step)⟩
        · rw [if_neg c3] at H
          exact absurd H (by simp)
      · rw [if_neg c2] at H
        have c2b0 : decide (x3_1 < (a0.size : Int)) = false := decide_eq_false c2
        clear c2
        by_cases c43 : (a0.size : Int) ≥ 1
        · rw [if_pos c43] at H
          have c43b0 : decide (1 ≤ (a0.size : Int)) = true := decide_eq_true c43
          have c43b1 : decide (1 ≤ a0.size) = true := decide_eq_true (by omega)
          clear c43
          obtain rfl := Option.some.inj H
          go_wp2
          go_ret
          exact ⟨by first | rfl | (simp; done) | (simp [*]; done), by repeat (first | exact Drawn0.refl _ | apply Drawn0.step)⟩
        · rw [if_neg c43] at H
          have c43b0 : decide (1 ≤ (a0.size : Int)) = false := decide_eq_false c43
          have c43b1 : decide (1 ≤ a0.size) = false := decide_eq_false (by omega)
          clear c43
          obtain rfl := Option.some.inj H
          go_wp2
          go_ret
          exact ⟨by first | rfl | (simp; done) | (simp [*]; done), by repeat (first | exact Drawn0.refl _ | apply Drawn0.step)⟩
end Go.Proofs.Ytemhalnhbgkbcaa.V
end

-- HNames
section
/- Names: which may be. -/
namespace Go.Proofs.Ytemhalnhbgkbcaa.V
open Go.RowKit Go.Proofs.YtemhalnhbgkbcaaW.PrintWords Go.Proofs.YtemhalnhbgkbcaaW.PrintLast Go.Proofs.YtemhalnhbgkbcaaW.PrintMore
set_option linter.unusedVariables false
set_option linter.unusedSimpArgs false

def okSign (c : Int) : Bool := (decide (97 ≤ c) && decide (c ≤ 122)) || (decide (65 ≤ c) && decide (c ≤ 90)) || (decide (48 ≤ c) && decide (c ≤ 57)) || decide (c = 46) || decide (c = 45) || decide (c = 95)
def allFrom (s : ByteArray) (i : Nat) : Bool := (s.data.toList.drop i).all fun b => okSign (b.toNat : Int)
/-- May a name be? -/
def rightName (s : ByteArray) : Bool := allFrom s 0 && decide (0 < s.size) && decide (s.size ≤ 64)
theorem may_f (c : Int) (k : Nat) (hk : 2 < k) : names_may.f k c = some (okSign c) := by
  obtain ⟨k, rfl⟩ : ∃ m, k = m + 1 + 1 := ⟨k - 2, by omega⟩
  unfold names_may.f okSign
  simp only [names_may.j0, names_may.j1]
  repeat' split
  all_goals first | (simp_all; done) | (simp_all; omega) | (exfalso; simp_all; omega)
theorem may_any (c : Int) (w : World) : Calls Try.prog 112 #[.int .i32 c] w fun e w' => e = .returned (.bool (okSign c)) ∧ Drawn0 w w' :=
  names_may.calls 3 c _ w (may_f c 3 (by omega))
theorem bt_get (s : ByteArray) (i : Nat) (h : i < s.size) : bt s (i : Int) = (s[i].toNat : Int) := by simp [bt, h]
theorem allFrom_step (s : ByteArray) (i : Nat) (h : i < s.size) : allFrom s i = (okSign (bt s (i : Int)) && allFrom s (i + 1)) := by
  have h' : i < s.data.toList.length := by simpa using h
  unfold allFrom
  rw [List.drop_eq_getElem_cons h', List.all_cons, bt_get s i h]
  rfl
theorem allFrom_end (s : ByteArray) (i : Nat) (h : s.size ≤ i) : allFrom s i = true := by
  unfold allFrom
  rw [List.drop_of_length_le (by simpa using h)]
  rfl
theorem toList_nil (s : ByteArray) : s.data.toList = [] ↔ s.size = 0 := by
  constructor
  · intro h
    have := congrArg List.length h
    simpa using this
  · intro h
    exact List.eq_nil_of_length_eq_zero (by simpa using h)
theorem r12_step (k : Nat) (s : ByteArray) (i : Nat) (h : i < s.size) (hm : s.size ≤ 9223372036854775807) : virgateref12_Right.l0 (k + 1) s (i : Int) = if okSign (bt s (i : Int)) then virgateref12_Right.l0 k s ((i + 1 : Nat) : Int) else some false := by
  simp only [virgateref12_Right.l0]
  rw [if_pos (show (i : Int) < (s.size : Int) by omega), if_pos (show (0 : Int) ≤ (i : Int) by omega), show wrap64 ((i : Int) + 1) = ((i + 1 : Nat) : Int) by unfold wrap64; omega]
  generalize virgateref12_Right.l0 k s ((i + 1 : Nat) : Int) = A
  generalize bt s (i : Int) = c
  unfold okSign
  repeat' split
  all_goals first | rfl | (exfalso; simp_all; omega) | (simp_all; done) | (simp_all; omega)
theorem r12_l0 (s : ByteArray) (hm : s.size ≤ 9223372036854775807) : ∀ (d k i : Nat), i + d = s.size → d < k → virgateref12_Right.l0 k s (i : Int) = some (allFrom s i && decide (0 < s.size) && decide (s.size ≤ 64)) := by
  intro d
  induction d with
  | zero =>
    intro k i hi hk
    obtain ⟨k, rfl⟩ : ∃ m, k = m + 1 := ⟨k - 1, by omega⟩
    simp only [virgateref12_Right.l0]
    rw [if_neg (by omega), allFrom_end s i (by omega)]
    by_cases h1 : 0 < s.size
    · rw [if_pos (by omega)]
      simp [h1]
      omega
    · rw [if_neg (by omega)]
      simp [h1]
  | succ d ih =>
    intro k i hi hk
    obtain ⟨k, rfl⟩ : ∃ m, k = m + 1 := ⟨k - 1, by omega⟩
    rw [r12_step k s i (by omega) hm, allFrom_step s i (by omega)]
    by_cases h : okSign (bt s (i : Int)) = true
    · rw [if_pos h, ih k (i + 1) (by omega) (by omega), h, Bool.true_and]
    · have h' : okSign (bt s (i : Int)) = false := by simpa using h
      rw [if_neg h, h']
      simp
theorem r12_f (s : ByteArray) (hm : s.size ≤ 9223372036854775807) (k : Nat) (hk : s.size < k) : virgateref12_Right.f k s = some (rightName s) := r12_l0 s hm s.size k 0 (by omega) hk
theorem iterPos_drewN (w : World) (s : ByteArray) (p n : Nat) : ((w.iter s p).drewN n).iterPos w.heap.size = p := World.iterPos_iter (w.drewN n) s p
theorem below_iter {w : World} {s : ByteArray} {p : Nat} (h : Below w.heap.size w w) : Below w.heap.size w (w.iter s p) := below_alloc h _
theorem okSign_high (c : Int) (h : 128 ≤ c) : okSign c = false := by
  unfold okSign
  simp
  omega
theorem toList_nil' (s : ByteArray) : s.toList = [] ↔ s.size = 0 := by rw [ByteArray.toList_eq]; exact toList_nil s
set_option maxHeartbeats 2000000 in
set_option maxRecDepth 100000 in
theorem right_any (s : ByteArray) (w : World) : Calls Try.prog 104 #[.string s] w fun e w' => e = .returned (.bool (rightName s)) ∧ Below w.heap.size w w' := by
  go_enter Try.func104, Try.ntmps104
  go_wp2
  go_loopw [4] (fun c W => ∃ pos nd : Nat, W = (w.iter s pos).drewN nd ∧ pos ≤ s.size ∧ Aside0 (allFrom s 0 = allFrom s pos)) (fun _ W => s.size - W.iterPos w.heap.size)
  case atStart => exact ⟨0, 0, rfl, by omega, ⟨rfl⟩⟩
  case round =>
    obtain ⟨pos, nd, rfl, hpos, HA⟩ := hrel
    by_cases hp : pos < s.size
    · have hnx : ∀ ty, (Instr.next (.pointer (some ⟨w.heap.size, 0, none⟩)) true ty).run Try.prog ((w.iter s pos).drewN nd) = .ok (.tuple #[.bool true, .int .i64 pos, .int .i32 (Utf8.decode s pos).1]) ((w.iter s (pos + (Utf8.decode s pos).2)).drewN nd) := fun ty => run_next_any (w.drewN nd) s pos ty hp
      by_cases ha : (s[pos]'hp).toNat < 128
      · have hd := decode_ascii s pos hp ha
        rw [hd] at hnx
        have hbt := bt_get s pos hp
        have hst := allFrom_step s pos hp
        cases hok : okSign (bt s (pos : Int)) with
        | true =>
          have HA2 := Aside0.mk (show allFrom s 0 = allFrom s (pos + 1) by rw [HA.out, hst, hok, Bool.true_and])
          rw [hbt] at hok
          have HOK := Aside0.mk hok
          clear hok hst hbt hd ha
          go_wp2_with (go_at_call 112; refine (may_any _ _).mono ?_; rintro e w' ⟨rfl, ⟨nd2, rfl⟩⟩; rw [HOK.out])
          go_roundw
          case rel => exact ⟨pos + 1, nd + nd2, rfl, by omega, HA2⟩
          case measure => rw [iterPos_drewN, iterPos_drewN]; omega
        | false =>
          have HF := Aside0.mk (show rightName s = false by unfold rightName; rw [HA.out, hst, hok]; rfl)
          rw [hbt] at hok
          have HOK := Aside0.mk hok
          clear hok hst hbt hd ha
          go_wp2_with (go_at_call 112; refine (may_any _ _).mono ?_; rintro e w' ⟨rfl, ⟨nd2, rfl⟩⟩; rw [HOK.out])
          go_ret
          exact ⟨by rw [HF.out]; rfl, by repeat (first | exact Below.refl _ _ | apply pw_below_drewN | apply below_iter)⟩
      · have hd := decode_high s pos hp (by omega)
        have hst := allFrom_step s pos hp
        have hok : okSign (bt s (pos : Int)) = false := okSign_high _ (by rw [bt_get s pos hp]; omega)
        have HF := Aside0.mk (show rightName s = false by unfold rightName; rw [HA.out, hst, hok]; rfl)
        have HOK := Aside0.mk (okSign_high ((Utf8.decode s pos).1 : Int) (by omega))
        generalize Utf8.decode s pos = D at hnx HOK
        clear hok hst hd ha
        go_wp2_with (go_at_call 112; refine (may_any _ _).mono ?_; rintro e w' ⟨rfl, ⟨nd2, rfl⟩⟩; rw [HOK.out])
        go_ret
        exact ⟨by rw [HF.out]; rfl, by repeat (first | exact Below.refl _ _ | apply pw_below_drewN | apply below_iter)⟩
    · have hnx : ∀ ty, (Instr.next (.pointer (some ⟨w.heap.size, 0, none⟩)) true ty).run Try.prog ((w.iter s pos).drewN nd) = .ok (.tuple #[.bool false]) ((w.iter s pos).drewN nd) := fun ty => run_next_end (w.drewN nd) s pos ty hp
      have hall : allFrom s 0 = true := by rw [HA.out, allFrom_end s pos (by omega)]
      by_cases h0 : s.size = 0
      · have hn : s.toList = [] := (toList_nil' s).2 h0
        have hn2 : (!s.toList.isEmpty) = false := by rw [hn]; rfl
        have HF := Aside0.mk (show rightName s = false by unfold rightName; rw [h0]; simp)
        clear h0 hall HA hpos hp
        go_wp2
        go_ret
        exact ⟨by rw [HF.out]; rfl, by repeat (first | exact Below.refl _ _ | apply pw_below_drewN | apply below_iter)⟩
      · have hn : ¬ s.toList = [] := fun h => h0 ((toList_nil' s).1 h)
        have hn2 : (!s.toList.isEmpty) = true := by cases hh : s.toList <;> simp_all
        have HF := Aside0.mk (show rightName s = decide ((s.size : Int) ≤ 64) by
          unfold rightName
          rw [hall, decide_eq_true (show 0 < s.size by omega)]
          simp only [Bool.true_and]
          exact decide_eq_decide.2 (by omega))
        clear h0 hall HA hpos hp
        go_wp2
        go_ret
        exact ⟨by rw [HF.out]; rfl, by repeat (first | exact Below.refl _ _ | apply pw_below_drewN | apply below_iter)⟩
/-- In the print's form. -/
def names_Right.f (a0 : ByteArray) : Option Bool := some (rightName a0)
theorem names_Right.calls (a0 : ByteArray) (r : Bool) (w : World) (h : names_Right.f a0 = some r) : Calls Try.prog 104 #[.string a0] w fun e w' => e = .returned (.bool r) ∧ Below w.heap.size w w' := by
  obtain rfl := Option.some.inj h
  exact right_any a0 w
end Go.Proofs.Ytemhalnhbgkbcaa.V
end

-- VFBlockMay
section
-- PRINTED by print.py (a twelfth state) out of the translation. Not trusted: Lean checks it.
namespace Go.Proofs.Ytemhalnhbgkbcaa.V
open Go.RowKit Go.Proofs.YtemhalnhbgkbcaaW.PrintWords Go.Proofs.YtemhalnhbgkbcaaW.PrintLast Go.Proofs.YtemhalnhbgkbcaaW.PrintMore
attribute [local go_sem] max2_int min2_int max_two min_two max_three min_three max_four min_four   -- for this text's walks alone
set_option linter.unusedVariables false
set_option linter.unusedSimpArgs false

/-! ### block_may: function 88 -/
def block_may.f (a0_0 : ByteArray) (a0_1 : ByteArray) : Option (Bool) := (names_Right.f a0_0).bind fun t88102 => (if t88102 = true then ((names_Right.f a0_1).bind fun t88103 => (some t88103)) else (some false))
set_option maxHeartbeats 8000000 in
set_option maxRecDepth 100000 in
theorem block_may.calls (a0_0 : ByteArray) (a0_1 : ByteArray) (r : Bool) (w : World) (h : block_may.f a0_0 a0_1 = some r) :
    Calls Try.prog 88 #[.agg #[.string a0_0, .string a0_1]] w fun e w' => e = .returned (.bool r) ∧ Below w.heap.size w w' := by
  have hu85 := Try.underlying85
  have HB := Aside0.mk (Below.refl w.heap.size w)
  have H : ((names_Right.f a0_0).bind fun t88102 => (if t88102 = true then ((names_Right.f a0_1).bind fun t88103 => (some t88103)) else (some false))) = some r := h
  clear h
  replace H := Option.bind_eq_some_iff.mp H
  obtain ⟨t88102, A20, H⟩ := H
  replace H : (if t88102 = true then ((names_Right.f a0_1).bind fun t88103 => (some t88103)) else (some false)) = some r := H
  have A2 := Aside0.mk A20
  clear A20
  by_cases c3 : t88102 = true
  · subst c3
    have H1 : ((names_Right.f a0_1).bind fun t88103 => (some t88103)) = some r := by rw [if_pos rfl] at H; exact H
    clear H
    have H := H1
    clear H1
    replace H := Option.bind_eq_some_iff.mp H
    obtain ⟨t88103, A40, H⟩ := H
    replace H : (some t88103) = some r := H
    have A4 := Aside0.mk A40
    clear A40
    obtain rfl := Option.some.inj H
    go_enter Try.func88, Try.ntmps88
    go_wp2_with (first | ((with_reducible refine gate_dst (N := 1) rfl ?_); refine box_event ?hg (N := 1) ?hd (cs := #[.string a0_0, .string a0_1]) (t := 85) ?hr ?_; (case hd => rfl); (case hg => rfl); (case hr => first | (go_simp; done) | (go_simp; rfl)); intro gb88101 hg w5 hbox hb; have n0_ := Aside0.mk (below_step (by repeat (first | (with_reducible first | exact HB.out | apply below_alloc | apply pw_below_drewN | apply below_drew1) | exact HB.out)) hb); have n1_ := Aside0.mk (hbox); have n2_ := Aside0.mk ((by rw [hg]; exact (below_size (by repeat (first | (with_reducible first | exact HB.out | apply below_alloc | apply pw_below_drewN | apply below_drew1) | exact HB.out))) : w.heap.size ≤ gb88101)); have n3_ := Aside0.mk ((by rw [hg]; exact (below_size (by repeat (first | (with_reducible first | exact HB.out | apply below_alloc | apply pw_below_drewN | apply below_drew1) | exact HB.out))) : w.heap.size ≤ gb88101)); clear HB; have HB := n0_; have BK88101 := n1_; have GW88101 := n2_; have GE88101 := n3_; clear n0_ n1_ n2_ n3_; clear hb hbox hg; have hcz6_0 : w5.cell? ⟨gb88101, 0, none⟩ = some (.string a0_0) := (blk_cell BK88101.out 0).trans rfl; have hcz6_1 : w5.cell? ⟨gb88101, 1, none⟩ = some (.string a0_1) := (blk_cell BK88101.out 1).trans rfl; have hfz6_0 := blk_frozen BK88101.out 0; have hfz6_1 := blk_frozen BK88101.out 1) | ((with_reducible refine gate_callee (f := 104) rfl ?_); refine goesL_ (some 5) rfl rfl Try.func104 (by kernel_rfl) rfl #[.string a0_0] rfl (by (try simp only [List.map_toArray, List.map_cons, List.map_nil]); first | done | rfl | (simp only [List.length_drop, List.length_take]; rfl)) ?_; (with_reducible refine (names_Right.calls a0_0 true _ A2.out).mono ?_); rintro e w7 ⟨rfl, hb⟩; refine ⟨_, rfl, ?_⟩; have n0_ := Aside0.mk (blk_below (g := gb88101) (o := .cells #[.string a0_0, .string a0_1] 85 (0, 0)) (by (with_reducible repeat (first | refine blk_drewN ?_ _ | refine blk_drew ?_ | refine blk_alloc ?_ _)); exact BK88101.out) hb); have n1_ := Aside0.mk (below_step (by repeat (first | (with_reducible first | exact HB.out | apply below_alloc | apply pw_below_drewN | apply below_drew1 | refine below_set ?_ GE88101.out) | exact HB.out)) hb); clear BK88101; clear HB; have BK88101 := n0_; have HB := n1_; clear n0_ n1_; (try clear hb); (try clear hb2); (try clear hk); (try clear hi); have hcz8_0 : w7.cell? ⟨gb88101, 0, none⟩ = some (.string a0_0) := (blk_cell BK88101.out 0).trans rfl; have hcz8_1 : w7.cell? ⟨gb88101, 1, none⟩ = some (.string a0_1) := (blk_cell BK88101.out 1).trans rfl; have hfz8_0 := blk_frozen BK88101.out 0; have hfz8_1 := blk_frozen BK88101.out 1) | (go_at_call 104; (with_reducible refine (names_Right.calls a0_1 t88103 _ A4.out).mono ?_); rintro e w9 ⟨rfl, hb⟩; have n0_ := Aside0.mk (blk_below (g := gb88101) (o := .cells #[.string a0_0, .string a0_1] 85 (0, 0)) (by (with_reducible repeat (first | refine blk_drewN ?_ _ | refine blk_drew ?_ | refine blk_alloc ?_ _)); exact BK88101.out) hb); have n1_ := Aside0.mk (below_step (by repeat (first | (with_reducible first | exact HB.out | apply below_alloc | apply pw_below_drewN | apply below_drew1 | refine below_set ?_ GE88101.out) | exact HB.out)) hb); clear BK88101; clear HB; have BK88101 := n0_; have HB := n1_; clear n0_ n1_; (try clear hb); (try clear hb2); (try clear hk); (try clear hi)))
    go_ret
    exact ⟨by first | rfl | (simp [errW_none, errW_some] <;> rfl) | (simp [*, errW_none, errW_some] <;> rfl), by repeat (first | (with_reducible first | exact HB.out | apply below_alloc | apply pw_below_drewN | apply below_drew1 | refine below_set ?_ GE88101.out) | exact HB.out)⟩
  · replace c3 := Bool.eq_false_iff.mpr c3
    subst c3
    have H1 : (some false) = some r := by rw [if_neg (show ¬ (false = true) by decide)] at H; exact H
    clear H
    have H := H1
    clear H1
    obtain rfl := Option.some.inj H
    go_enter Try.func88, Try.ntmps88
    go_wp2_with (first | ((with_reducible refine gate_dst (N := 1) rfl ?_); refine box_event ?hg (N := 1) ?hd (cs := #[.string a0_0, .string a0_1]) (t := 85) ?hr ?_; (case hd => rfl); (case hg => rfl); (case hr => first | (go_simp; done) | (go_simp; rfl)); intro gb88101 hg w10 hbox hb; have n0_ := Aside0.mk (below_step (by repeat (first | (with_reducible first | exact HB.out | apply below_alloc | apply pw_below_drewN | apply below_drew1) | exact HB.out)) hb); have n1_ := Aside0.mk (hbox); have n2_ := Aside0.mk ((by rw [hg]; exact (below_size (by repeat (first | (with_reducible first | exact HB.out | apply below_alloc | apply pw_below_drewN | apply below_drew1) | exact HB.out))) : w.heap.size ≤ gb88101)); have n3_ := Aside0.mk ((by rw [hg]; exact (below_size (by repeat (first | (with_reducible first | exact HB.out | apply below_alloc | apply pw_below_drewN | apply below_drew1) | exact HB.out))) : w.heap.size ≤ gb88101)); clear HB; have HB := n0_; have BK88101 := n1_; have GW88101 := n2_; have GE88101 := n3_; clear n0_ n1_ n2_ n3_; clear hb hbox hg; have hcz11_0 : w10.cell? ⟨gb88101, 0, none⟩ = some (.string a0_0) := (blk_cell BK88101.out 0).trans rfl; have hcz11_1 : w10.cell? ⟨gb88101, 1, none⟩ = some (.string a0_1) := (blk_cell BK88101.out 1).trans rfl; have hfz11_0 := blk_frozen BK88101.out 0; have hfz11_1 := blk_frozen BK88101.out 1) | ((with_reducible refine gate_callee (f := 104) rfl ?_); refine goesL_ (some 5) rfl rfl Try.func104 (by kernel_rfl) rfl #[.string a0_0] rfl (by (try simp only [List.map_toArray, List.map_cons, List.map_nil]); first | done | rfl | (simp only [List.length_drop, List.length_take]; rfl)) ?_; (with_reducible refine (names_Right.calls a0_0 false _ A2.out).mono ?_); rintro e w12 ⟨rfl, hb⟩; refine ⟨_, rfl, ?_⟩; have n0_ := Aside0.mk (blk_below (g := gb88101) (o := .cells #[.string a0_0, .string a0_1] 85 (0, 0)) (by (with_reducible repeat (first | refine blk_drewN ?_ _ | refine blk_drew ?_ | refine blk_alloc ?_ _)); exact BK88101.out) hb); have n1_ := Aside0.mk (below_step (by repeat (first | (with_reducible first | exact HB.out | apply below_alloc | apply pw_below_drewN | apply below_drew1 | refine below_set ?_ GE88101.out) | exact HB.out)) hb); clear BK88101; clear HB; have BK88101 := n0_; have HB := n1_; clear n0_ n1_; (try clear hb); (try clear hb2); (try clear hk); (try clear hi)))
    go_ret
    exact ⟨by first | rfl | (simp [errW_none, errW_some] <;> rfl) | (simp [*, errW_none, errW_some] <;> rfl), by repeat (first | (with_reducible first | exact HB.out | apply below_alloc | apply pw_below_drewN | apply below_drew1 | refine below_set ?_ GE88101.out) | exact HB.out)⟩
end Go.Proofs.Ytemhalnhbgkbcaa.V
end

-- BAttrs
section
/- block.attrs: may a block's attributes be, and is each some slot's? -/
namespace Go.Proofs.Ytemhalnhbgkbcaa.V
open Go.RowKit Go.Proofs.YtemhalnhbgkbcaaW.PrintWords Go.Proofs.YtemhalnhbgkbcaaW.PrintLast Go.Proofs.YtemhalnhbgkbcaaW.PrintMore
set_option linter.unusedVariables false
set_option linter.unusedSimpArgs false

def mayAt (a : At) : Bool := rightName a.f0 && rightName a.f1
theorem bmay_f (a : At) : block_may.f a.f0 a.f1 = some (mayAt a) := by
  unfold block_may.f names_Right.f mayAt
  cases h : rightName a.f0 <;> simp
theorem bmay_any (a : At) (w : World) : Calls Try.prog 88 #[atV a] w fun e w' => e = .returned (.bool (mayAt a)) ∧ Below w.heap.size w w' := block_may.calls a.f0 a.f1 _ w (bmay_f a)
def atN (l : List At) (j : Nat) : At := rd_T85 l (j : Int)
/-- The set of the slots' attributes. -/
def usedN (l : List Int) : Nat := ofN (l.map fun s => s - 1)
def attrsOk (b : Bk) : Bool := (b.slots.all fun s => decide (s ≤ (b.attrs.length : Int))) && ((List.range b.attrs.length).all (fun j => mayAt (atN b.attrs j) && !((b.attrs.take j).any (sameAt (atN b.attrs j)))) && decide ((listOf (usedN b.slots)).length = b.attrs.length))
/-- The numbers that have been met: one each. -/
def seenL (l : List At) : List (At × Int) := l.map fun a => (a, 1)
theorem seen_num (l : List At) (a : At) : numOf (seenL l) a = if l.any (sameAt a) = true then 1 else 0 := by
  unfold numOf seenL
  induction l with
  | nil => rfl
  | cons x l ih =>
    rw [List.map_cons, List.find?_cons, List.any_cons]
    cases h : sameAt a x with
    | true => simp
    | false => simpa using ih
theorem seen_put (l : List At) (a : At) (h : l.any (sameAt a) = false) (v : Int) : putAt (seenL l) a v = seenL l ++ [(a, v)] := by
  have : idxOf (seenL l) a = none := by
    unfold idxOf seenL
    simpa using h
  unfold putAt
  rw [this]
theorem seen_length (l : List At) : (seenL l).length = l.length := by simp [seenL]
theorem atN_get (l : List At) (j : Nat) (h : j < l.length) : atN l j = l[j] := by simp [atN, rd_T85, List.getD, h]
theorem take_at (l : List At) (j : Nat) (h : j < l.length) : l.take (j + 1) = l.take j ++ [atN l j] := by
  rw [List.take_add_one, List.getElem?_eq_getElem h, atN_get l j h]
  rfl
def attrs13.T13 : Bool × List (List Nat × List Nat) := (true, [([], []), ([], []), ([0, 1], [0, 1]), ([2], [2]), ([0, 1, 0, 1], [0, 1]), ([4], [4]), ([0, 5, 3, 4, 0, 1, 2, 3, 4, 5], [0, 3, 5])])
def attrs13.B13 : List Nat := [0, 0, 3, 7, 3, 19, 63]
theorem attrs13.tab13 : rtab .any (opsOf Try.f86 13) = attrs13.T13 := by kernel_rfl
theorem attrs13.bits13 : waitsOk attrs13.T13.2 attrs13.B13 = true := by kernel_rfl
def attrs17.T17 : Bool × List (List Nat × List Nat) := (true, [([], []), ([0], [0]), ([], []), ([2], [2]), ([3], [3]), ([1, 4], [1, 4]), ([5, 1, 0, 1, 2, 3, 4, 5], [5])])
def attrs17.B17 : List Nat := [0, 1, 0, 4, 12, 31, 63]
theorem attrs17.tab17 : rtab .any (opsOf Try.f86 17) = attrs17.T17 := by kernel_rfl
theorem attrs17.bits17 : waitsOk attrs17.T17.2 attrs17.B17 = true := by kernel_rfl
set_option maxHeartbeats 4000000 in
set_option maxRecDepth 100000 in
theorem attrs_any (b : Bk) (hs : U8s b.slots) (hn : b.attrs.length ≤ 64) (v : Value) (w : World) (h : BkV w v b) :
    Calls Try.prog 86 #[v] w fun e w' => e = .returned (.bool (attrsOk b)) ∧ Below w.heap.size w w' := by
  obtain ⟨A, c, A', c', rfl, hr⟩ := h
  have hl := hr.l64
  have HR := Aside0.mk hr
  have HS := Aside0.mk hs
  have HL := Aside0.mk hl
  have hmm := @run_makeMap Try.prog
  have hlen : (Try.prog.info? 47).map (·.size) = some (b.slots.map (Value.int .u8)).length := by rw [List.length_map, hl]; kernel_rfl
  have HLN := Aside0.mk hlen
  clear hr hs hl hlen
  go_enter Try.func86, Try.ntmps86
  go_wp2_with (first
    | (refine step_box rfl 57 (.tmp 0) rfl _ rfl ?_; intro g W1 hg hbx hb1; have HX := Aside0.mk hbx; have HB := Aside0.mk hb1; have HG := Aside0.mk hg; have HRR := Aside0.mk (HR.out.below hb1); have h67 := hbx.cell 67 _ (bkL_67 _ _ _ _ _ HL.out); clear hbx hb1 hg HR)
    | (refine step_loadPart rfl 47 (.tmp 10) rfl g 2 rfl 57 _ (b.slots.map (Value.int .u8)) (.array 64 5) (HX.out.alloc _) (bkL_part _ _ _ _ _ HL.out) Try.underlying47 rfl HLN.out ?_))
  have HM := Aside0.mk (show MapIs (W1.alloc (.map #[] 0)) W1.heap.size [] from heap_alloc_new W1 _)
  have HX2 := Aside0.mk (HX.out.alloc (.map #[] 0))
  have HZ2 := Aside0.mk (below_alloc (Below.refl W1.heap.size W1) (.map #[] 0))
  have HLT := Aside0.mk HX.out.lt
  have HG2 := Aside0.mk (show w.heap.size ≤ W1.heap.size from HB.out.size)
  have HX1 := HX
  have HB1 := HB
  have HR1 := HRR
  have HGM := Aside0.mk (Eq.refl W1.heap.size)
  clear HX HB HRR h67 hmm
  generalize W1.alloc (Obj.map #[] 0) = W2 at HM HX2 HZ2 ⊢
  generalize hgm : W1.heap.size = gm at HM HG2 HLT HZ2 HGM ⊢
  have HGE := Aside0.mk hgm
  clear hgm HGM
  have h67 := HX2.out.cell 67 _ (bkL_67 _ _ _ _ _ HL.out)
  go_loopw [4, 6, 12] (fun s _ i W => ∃ k nd : Nat, k ≤ 64 ∧ W = W2.drewN nd ∧ i = .int .i64 k ∧ s = .int .u64 ((usedN (b.slots.take k) : Nat) : Int) ∧ Aside0 (∀ j, j < k → rd b.slots (j : Int) ≤ (b.attrs.length : Int))) (fun _ _ i _ => 64 - (intOf i).toNat)
  case atStart => exact ⟨0, 0, by omega, rfl, rfl, rfl, ⟨fun j hj => by omega⟩⟩
  case round =>
    obtain ⟨k, nd, hk, rfl, rfl, rfl, HJ⟩ := hrel
    by_cases hk2 : k < 64
    · have hkb : decide ((k : Int) < 64) = true := by simp; omega
      have hkl : k < b.slots.length := by have := HL.out; omega
      obtain ⟨m, hm⟩ : ∃ m : Nat, rd b.slots k = (m : Int) := ⟨(rd b.slots k).toNat, by have := (U8s_rd HS.out k).1; omega⟩
      have hm2 : m < 256 := by have := (U8s_rd HS.out k).2; omega
      have hix := fun w => index47 b.slots HL.out k hk2 w
      have hg0 : b.slots.getD k 0 = (m : Int) := by rw [← hm]; simp [rd]
      rw [hg0] at hix
      by_cases hbig : m ≤ b.attrs.length
      · have hgb : decide (b.attrs.length < m) = false := by simp; omega
        have HU := Aside0.mk (show withN (usedN (b.slots.take k)) ((m : Int) - 1) = usedN (b.slots.take (k + 1)) by
          unfold usedN ofN
          rw [List.take_add_one, List.map_append, List.foldl_append, List.getElem?_eq_getElem hkl]
          have : b.slots[k] = (m : Int) := by rw [← hg0]; simp [List.getD, List.getElem?_eq_getElem hkl]
          rw [this]
          rfl)
        have HJ2 := Aside0.mk (show ∀ j, j < k + 1 → rd b.slots (j : Int) ≤ (b.attrs.length : Int) from fun j hj => by
          by_cases h : j < k
          · exact HJ.out j h
          · obtain rfl : j = k := by omega
            rw [hm]
            omega)
        clear hm hg0
        go_wp2_with (go_at_call 21; refine (with_any (usedN (b.slots.take k)) (ofN_lt _) _ _).mono ?_; rintro e w' ⟨rfl, ⟨nd3, rfl⟩⟩; rw [HU.out])
        go_roundw
        case rel => exact ⟨k + 1, nd + nd3, by omega, by simp, by go_num, rfl, HJ2⟩
        case measure => simp [intOf]; omega
      · have hgb : decide (b.attrs.length < m) = true := by simp; omega
        have HV := Aside0.mk (show attrsOk b = false by
          unfold attrsOk
          rw [Bool.and_eq_false_iff]
          left
          rw [List.all_eq_false]
          refine ⟨b.slots[k], List.getElem_mem _, ?_⟩
          have : b.slots[k] = (m : Int) := by rw [← hg0]; simp [List.getD, List.getElem?_eq_getElem hkl]
          rw [this]
          simp
          omega)
        clear hm hg0
        go_wp2
        go_ret
        exact ⟨by rw [HV.out]; rfl, by apply pw_below_drewN; exact HB1.out.trans (HZ2.out.mono HG2.out)⟩
    · obtain rfl : k = 64 := by omega
      rw [show ((64 : Nat) : Int) = (64 : Int) from rfl]
      have hkb : decide ((64 : Int) < 64) = false := by decide
      have HT := Aside0.mk (show b.slots.take 64 = b.slots from List.take_of_length_le (by have := HL.out; omega))
      have HA := Aside0.mk (show (b.slots.all fun s => decide (s ≤ (b.attrs.length : Int))) = true by
        rw [List.all_eq_true]
        intro s hs
        obtain ⟨j, hj, rfl⟩ := List.getElem_of_mem hs
        have := HJ.out j (by have := HL.out; omega)
        simpa [rd, List.getD, hj] using this)
      go_wp2_with fail
      go_loopw [8, 30] (fun _ i W => ∃ k : Nat, k ≤ b.attrs.length ∧ i = .int .i64 k ∧ Aside0 (MapIs W gm (seenL (b.attrs.take k))) ∧ Aside0 (Below gm W1 W) ∧ Aside0 (∀ j, j < k → mayAt (atN b.attrs j) = true ∧ (b.attrs.take j).any (sameAt (atN b.attrs j)) = false)) (fun _ i _ => b.attrs.length - (intOf i).toNat)
      case atStart => exact ⟨0, by omega, rfl, HM, ⟨by apply pw_below_drewN; exact HZ2.out⟩, ⟨fun j hj => by omega⟩⟩
      case round =>
        clear HM HX2 h67 HJ HZ2
        obtain ⟨k, hk, rfl, HM, HZ, HJ⟩ := hrel
        obtain ⟨W, rfl⟩ : ∃ W : World, W = wr := ⟨_, rfl⟩
        have HR := Aside0.mk (HR1.out.below (by rw [HGE.out]; exact HZ.out))
        by_cases hkn : k < b.attrs.length
        · have hkb : decide ((k : Int) < (b.attrs.length : Int)) = true := by simp; omega
          obtain ⟨ad, eA, hx0, hx1⟩ := at_T85 HR.out.ar k (by omega) (by omega)
          cases eA
          rw [Int.toNat_natCast] at hx0 hx1
          have p1 : ((k : Int) < (b.attrs.length : Int)) = True := eq_true (by omega)
          obtain ⟨a, ha⟩ : ∃ a : At, atN b.attrs k = a := ⟨_, rfl⟩
          have ha' : rd_T85 b.attrs (k : Int) = a := ha
          rw [ha'] at hx0 hx1
          have HA1 := Aside0.mk ha
          have HK := Aside0.mk (show (seenL (b.attrs.take (k + 1))) = seenL (b.attrs.take k) ++ [(a, 1)] by
            unfold seenL
            rw [take_at _ _ hkn, ha]
            simp)
          have hbad : (mayAt a = false ∨ (b.attrs.take k).any (sameAt a) = true) → attrsOk b = false := fun h => by
            unfold attrsOk
            rw [HA.out, Bool.true_and, Bool.and_eq_false_iff]
            left
            rw [List.all_eq_false]
            refine ⟨k, by simpa using hkn, ?_⟩
            rw [ha]
            rcases h with h | h <;> rw [h] <;> simp
          have HBAD := Aside0.mk hbad
          have HJ2 := Aside0.mk (show mayAt a = true → (b.attrs.take k).any (sameAt a) = false → ∀ j, j < k + 1 → mayAt (atN b.attrs j) = true ∧ (b.attrs.take j).any (sameAt (atN b.attrs j)) = false from fun h1 h2 j hj => by
            by_cases hjk : j < k
            · exact HJ.out j hjk
            · obtain rfl : j = k := by omega
              rw [ha]
              exact ⟨h1, h2⟩)
          clear ha ha' hbad
          go_wp2_with (first
            | (refine step_allocN (some 8) rfl rfl 85 rfl [.string ⟨#[]⟩, .string ⟨#[]⟩] (fun _ => by kernel_rfl) ?_; intro ga W3 hga HB3 hbw3)
            | (refine step_store rfl 85 (.tmp 8) (.tmp 33) rfl ga [.string a.f0, .string a.f1] rfl rfl 85 _ HB3 2 (by kernel_rfl) rfl rfl (by intro u hu; simp at hu; rcases hu with rfl | rfl <;> rfl) ?_; intro W4 HB4 hgw4))
          have HA4 := Aside0.mk HB4
          have hlt4 := HB3.lt
          have hbW : Below W.heap.size W W4 := hbw3.grown hgw4 hbw3.size (fun q hq => by cases hq; exact hga)
          have HM4 := Aside0.mk (show MapIs W4 gm (seenL (b.attrs.take k)) from (hbW.block gm (Array.getElem?_eq_some_iff.1 HM.out).1).trans HM.out)
          have HGW := Aside0.mk (show gm ≤ W.heap.size from by have := (Array.getElem?_eq_some_iff.1 HM.out).1; omega)
          have HZ4 := Aside0.mk (HZ.out.trans (hbW.mono HGW.out))
          have HGA := Aside0.mk (show gm ≠ ga by have := (Array.getElem?_eq_some_iff.1 HM.out).1; omega)
          have HLK := Aside0.mk (show (seenL (b.attrs.take k)).length < 1000 by rw [seen_length, List.length_take]; omega)
          have HGS := Aside0.mk (show gm ≤ W4.heap.size from Nat.le_trans HGW.out hbW.size)
          clear HM HR HZ HB3 HB4 hga hbw3 hgw4 hbW hlt4 hx0 hx1
          obtain ⟨n, hn0⟩ : ∃ n : Nat, numOf (seenL (b.attrs.take k)) a = (n : Int) := by
            rw [seen_num]
            split
            · exact ⟨1, rfl⟩
            · exact ⟨0, rfl⟩
          have HN0 := Aside0.mk hn0
          have HN2 := Aside0.mk (show (n = 1 ∧ (b.attrs.take k).any (sameAt a) = true) ∨ (n = 0 ∧ (b.attrs.take k).any (sameAt a) = false) by
            rw [seen_num] at hn0
            split at hn0
            · rename_i h; exact .inl ⟨by omega, h⟩
            · rename_i h; exact .inr ⟨by omega, by simpa using h⟩)
          clear hn0
          refine start_ (n := 7) (S := fun w' => w'.cell? ⟨ga, 0, none⟩ = some (.string a.f0) ∧ w'.cell? ⟨ga, 1, none⟩ = some (.string a.f1) ∧ ∃ L1, MapIs w' gm L1 ∧ numOf L1 a = (n : Int)) (ds := [6]) #[false, false, false, false, false, false, false] (by kernel_rfl) rfl rfl ⟨HA4.out.cell 0 _ rfl, HA4.out.cell 1 _ rfl, _, HM4.out, HN0.out⟩ (fun hHeld => ?_); refine with_tabW attrs13.tab13 attrs13.bits13 (fun HT_ HW_ => ?_)
          refine pure_ (i := 0) (N := some 34) (v := ?_) (a' := ?_) #[true, false, false, false, false, false, false] rfl rfl (any_of HT_.out (by kernel_rfl)) (fun _ _ _ h => h) (Or.inl ⟨by rfl, ?_⟩) ?_ ?_
          rotate_left
          · intro w'
            go_simp
            with_reducible rfl
          rotate_left
          · simp only [Act.put, List.setIfInBounds_toArray, List.set_cons_zero, List.set_cons_succ, i64_w, i32_w]
            rfl
          refine take_ (i := 1) (N := some 35) (v := ?_) (a' := ?_) #[true, true, false, false, false, false, false] rfl rfl (take_ofW HT_.out HW_.out (by kernel_rfl)) (fun _ _ _ h => h) (Or.inl ⟨by rfl, ?_⟩) hHeld ?_ ?_
          rotate_left
          · intro w' hS_
            obtain ⟨s0, s1, s2⟩ := hS_
            go_simp
            with_reducible rfl
          rotate_left
          · simp only [Act.put, List.setIfInBounds_toArray, List.set_cons_zero, List.set_cons_succ, i64_w, i32_w]
            rfl
          refine take_ (i := 2) (N := some 36) (v := ?_) (a' := ?_) #[true, true, true, false, false, false, false] rfl rfl (take_ofW HT_.out HW_.out (by kernel_rfl)) (fun _ _ _ h => h) (Or.inl ⟨by rfl, ?_⟩) hHeld ?_ ?_
          rotate_left
          · intro w' hS_
            obtain ⟨s0, s1, L1, s2, s3⟩ := hS_
            have hlk := look_run _ _ _ s2 a
            rw [s3] at hlk
            simp only [atV] at hlk
            go_simp
            with_reducible rfl
          rotate_left
          · simp only [Act.put, List.setIfInBounds_toArray, List.set_cons_zero, List.set_cons_succ, i64_w, i32_w]
            rfl
          refine pure_ (i := 3) (N := some 37) (v := ?_) (a' := ?_) #[true, true, true, true, false, false, false] rfl rfl (any_of HT_.out (by kernel_rfl)) (fun _ _ _ h => h) (Or.inl ⟨by rfl, ?_⟩) ?_ ?_
          rotate_left
          · intro w'
            go_simp
            with_reducible rfl
          rotate_left
          · simp only [Act.put, List.setIfInBounds_toArray, List.set_cons_zero, List.set_cons_succ, i64_w, i32_w]
            rfl
          refine one_ (i := 4) (N := some 38) #[true, true, true, true, true, false, false] rfl rfl (one_of HT_.out (by kernel_rfl)) (by decide) (fun K hK => ?_)
          obtain ⟨W6, W7, jj, he1, hL1, he2, hm7, hg7, hc7⟩ := entry_run W4.drew gm _ HM4.out HLK.out a (wrap64 ((n : Int) + 1)); rw [HN0.out] at he1; simp only [atV] at he1
          refine event_step (v := .tuple #[.int .i64 (n : Int), .int .i64 jj]) (w1 := W6) (by rfl) ?_ ?_
          · go_simp
            try rfl
          refine hK.out _ _ ⟨(hc7 _ HGA.out.symm).trans (HA4.out.cell 0 _ rfl), (hc7 _ HGA.out.symm).trans (HA4.out.cell 1 _ rfl), by obtain ⟨L1, h1, h2⟩ := hL1; exact ⟨L1, h1, h2.trans HN0.out⟩⟩ (fun hHeld => ?_)
          clear hK K
          refine norm_ (a' := ?_) ?_ ?_
          rotate_left
          · show Act.put _ (some 38) _ = _
            simp only [Act.put, List.setIfInBounds_toArray, List.set_cons_zero, List.set_cons_succ, i64_w, i32_w]
            rfl
          refine pure_ (i := 5) (N := some 39) (v := ?_) (a' := ?_) #[true, true, true, true, true, true, false] rfl rfl (any_of HT_.out (by kernel_rfl)) (fun _ _ _ h => h) (Or.inl ⟨by rfl, ?_⟩) ?_ ?_
          rotate_left
          · intro w'
            go_simp
            with_reducible rfl
          rotate_left
          · simp only [Act.put, List.setIfInBounds_toArray, List.set_cons_zero, List.set_cons_succ, i64_w, i32_w]
            rfl
          refine last_ (i := 6) (N := none) #[true, true, true, true, true, true, true] rfl rfl (one_of HT_.out (by kernel_rfl)) (by decide) (fun K hK => ?_)
          refine skip_ (w1 := ?_) (by rfl) rfl ?_ ?_
          rotate_left
          · go_simp
            rfl
          refine hK.out _ _ ?_
          clear hK K
          refine done_ (done_of HT_.out (by kernel_rfl)) ?_
          have HA7 := Aside0.mk (show Box W7 ga [.string a.f0, .string a.f1] 85 from (show Box W4.drew ga _ _ from HA4.out).grown hg7 (fun e => HGA.out (Option.some.inj e).symm))
          have HM7 := Aside0.mk hm7
          have HZ7 := Aside0.mk ((show Below gm W1 W4.drew from below_drew HZ4.out).grown hg7 HGS.out (fun q hq => by cases hq; exact Nat.le_refl _))
          have HG7 := Aside0.mk (show gm ≤ W7.heap.size from Nat.le_trans HGS.out hg7.size)
          clear hm7 hg7 hc7 he1 he2 hL1 HA4 HM4 HZ4 hHeld
          have hy0 := HA7.out.cell 0 _ rfl
          have hy1 := HA7.out.cell 1 _ rfl
          cases hmy : mayAt a with
          | false =>
            have HV := Aside0.mk (HBAD.out (.inl hmy))
            have HMY := Aside0.mk hmy
            clear hmy
            go_wp2_with (go_at_call 88; refine (bmay_any a _).mono ?_; rintro e W8 ⟨rfl, hb8⟩; rw [HMY.out])
            go_ret
            exact ⟨by rw [HV.out]; rfl, HB1.out.trans ((HZ7.out.trans (hb8.mono HG7.out)).mono HG2.out)⟩
          | true =>
            have HMY := Aside0.mk hmy
            clear hmy
            rcases HN2.out with ⟨hn1, hs1⟩ | ⟨hn1, hs1⟩
            · have HV := Aside0.mk (HBAD.out (.inr hs1))
              have HE2 := Aside0.mk (show wrap64 ((n : Int) + 1) = 2 by rw [hn1]; unfold wrap64; omega)
              clear hn1 hs1
              go_wp2_with (first | (go_at_call 88; refine (bmay_any a _).mono ?_; rintro e W8 ⟨rfl, hb8⟩; rw [HMY.out]; have HZ8 := Aside0.mk (HZ7.out.trans (hb8.mono HG7.out)); have hy80 := (HA7.out.below hb8).cell 0 _ rfl; have hy81 := (HA7.out.below hb8).cell 1 _ rfl; have HM8 := Aside0.mk (show MapIs W8 gm _ from (hb8.block gm (Array.getElem?_eq_some_iff.1 HM7.out).1).trans HM7.out); have hlk := look_run _ _ _ HM8.out a; rw [numOf_put, HE2.out] at hlk; simp only [atV] at hlk; clear hb8 HA7 HM7 HZ7 hy0 hy1))
              go_ret
              exact ⟨by rw [HV.out]; rfl, HB1.out.trans (HZ8.out.mono HG2.out)⟩
            · have HE2 := Aside0.mk (show wrap64 ((n : Int) + 1) = 1 by rw [hn1]; unfold wrap64; omega)
              have HJ3 := Aside0.mk (HJ2.out HMY.out hs1)
              have HPU := Aside0.mk (show putAt (seenL (b.attrs.take k)) a (wrap64 ((n : Int) + 1)) = seenL (b.attrs.take (k + 1)) by rw [HE2.out, seen_put _ _ hs1, HK.out])
              clear hn1 hs1
              go_wp2_with (first | (go_at_call 88; refine (bmay_any a _).mono ?_; rintro e W8 ⟨rfl, hb8⟩; rw [HMY.out]; have HZ8 := Aside0.mk (HZ7.out.trans (hb8.mono HG7.out)); have hy80 := (HA7.out.below hb8).cell 0 _ rfl; have hy81 := (HA7.out.below hb8).cell 1 _ rfl; have HM8 := Aside0.mk (show MapIs W8 gm _ from (hb8.block gm (Array.getElem?_eq_some_iff.1 HM7.out).1).trans HM7.out); have hlk := look_run _ _ _ HM8.out a; rw [numOf_put, HE2.out] at hlk; simp only [atV] at hlk; clear hb8 HA7 HM7 HZ7 hy0 hy1))
              rw [HPU.out] at HM8
              go_roundw
              case rel => exact ⟨k + 1, by omega, by go_num, HM8, HZ8, HJ3⟩
              case measure => simp [intOf]; omega
        · obtain rfl : k = b.attrs.length := by omega
          have hkb : decide ((b.attrs.length : Int) < (b.attrs.length : Int)) = false := by simp
          have HAA := Aside0.mk (show (List.range b.attrs.length).all (fun j => mayAt (atN b.attrs j) && !((b.attrs.take j).any (sameAt (atN b.attrs j)))) = true by
            rw [List.all_eq_true]
            intro j hj
            obtain ⟨h1, h2⟩ := HJ.out j (by simpa using hj)
            rw [h1, h2]
            rfl)
          have HV := Aside0.mk (show attrsOk b = decide ((listOf (usedN b.slots)).length = b.attrs.length) by
            unfold attrsOk
            rw [HA.out, HAA.out, Bool.true_and, Bool.true_and])
          have HXW := Aside0.mk (HX1.out.below (by rw [HGE.out]; exact HZ.out))
          have h67 := HXW.out.cell 67 _ (bkL_67 _ _ _ _ _ HL.out)
          rw [HT.out]
          go_wp2_with fail
          refine start_ (n := 7) (S := fun w' => w'.cell? ⟨g, 67, none⟩ = some (Value.slice A' b.attrs.length c')) (ds := []) #[false, false, false, false, false, false, false] (by kernel_rfl) rfl rfl h67 (fun hHeld => ?_); refine with_tabW attrs17.tab17 attrs17.bits17 (fun HT_ HW_ => ?_)
          refine pure_ (i := 0) (N := some 50) (v := ?_) (a' := ?_) #[true, false, false, false, false, false, false] rfl rfl (any_of HT_.out (by kernel_rfl)) (fun _ _ _ h => h) (Or.inl ⟨by rfl, ?_⟩) ?_ ?_
          rotate_left
          · intro w'
            go_simp
            with_reducible rfl
          rotate_left
          · simp only [Act.put, List.setIfInBounds_toArray, List.set_cons_zero, List.set_cons_succ, i64_w, i32_w]
            rfl
          refine pure_ (i := 2) (N := some 52) (v := ?_) (a' := ?_) #[true, false, true, false, false, false, false] rfl rfl (any_of HT_.out (by kernel_rfl)) (fun _ _ _ h => h) (Or.inl ⟨by rfl, ?_⟩) ?_ ?_
          rotate_left
          · intro w'
            go_simp
            with_reducible rfl
          rotate_left
          · simp only [Act.put, List.setIfInBounds_toArray, List.set_cons_zero, List.set_cons_succ, i64_w, i32_w]
            rfl
          refine take_ (i := 3) (N := some 53) (v := ?_) (a' := ?_) #[true, false, true, true, false, false, false] rfl rfl (take_ofW HT_.out HW_.out (by kernel_rfl)) (fun _ _ _ h => h) (Or.inl ⟨by rfl, ?_⟩) hHeld ?_ ?_
          rotate_left
          · intro w' hS_
            go_simp
            with_reducible rfl
          rotate_left
          · simp only [Act.put, List.setIfInBounds_toArray, List.set_cons_zero, List.set_cons_succ, i64_w, i32_w]
            rfl
          refine pure_ (i := 4) (N := some 54) (v := ?_) (a' := ?_) #[true, false, true, true, true, false, false] rfl rfl (any_of HT_.out (by kernel_rfl)) (fun _ _ _ h => h) (Or.inl ⟨by rfl, ?_⟩) ?_ ?_
          rotate_left
          · intro w'
            go_simp
            with_reducible rfl
          rotate_left
          · simp only [Act.put, List.setIfInBounds_toArray, List.set_cons_zero, List.set_cons_succ, i64_w, i32_w]
            rfl
          refine one_ (i := 1) (N := some 51) #[true, true, true, true, true, false, false] rfl rfl (one_of HT_.out (by kernel_rfl)) (by decide) (fun K hK => ?_)
          refine goes_ Try.func27 (by kernel_rfl) rfl #[.int .u64 ((usedN b.slots : Nat) : Int)] (by rfl) rfl rfl (by (try simp only [List.map_toArray, List.map_cons, List.map_nil]); first | done | rfl) ?_
          refine (len_any (usedN b.slots) (ofN_lt _) _).mono ?_
          rintro e W9 ⟨rfl, ⟨nd9, rfl⟩⟩
          refine ⟨_, rfl, ?_⟩
          refine hK.out _ _ hHeld (fun hHeld => ?_)
          clear hK K
          refine norm_ (a' := ?_) ?_ ?_
          rotate_left
          · show Act.put _ (some 51) _ = _
            simp only [Act.put, List.setIfInBounds_toArray, List.set_cons_zero, List.set_cons_succ, i64_w, i32_w]
            rfl
          refine pure_ (i := 5) (N := some 55) (v := ?_) (a' := ?_) #[true, true, true, true, true, true, false] rfl rfl (any_of HT_.out (by kernel_rfl)) (fun _ _ _ h => h) (Or.inl ⟨by rfl, ?_⟩) ?_ ?_
          rotate_left
          · intro w'
            go_simp
            with_reducible rfl
          rotate_left
          · simp only [Act.put, List.setIfInBounds_toArray, List.set_cons_zero, List.set_cons_succ, i64_w, i32_w]
            rfl
          refine pure_ (i := 6) (N := some 2) (v := ?_) (a' := ?_) #[true, true, true, true, true, true, true] rfl rfl (any_of HT_.out (by kernel_rfl)) (fun _ _ _ h => h) (Or.inl ⟨by rfl, ?_⟩) ?_ ?_
          rotate_left
          · intro w'
            go_simp
            with_reducible rfl
          rotate_left
          · simp only [Act.put, List.setIfInBounds_toArray, List.set_cons_zero, List.set_cons_succ, i64_w, i32_w]
            rfl
          refine done_ (done_of HT_.out (by kernel_rfl)) ?_
          try go_wp2
          go_ret
          refine ⟨?_, by apply pw_below_drewN; exact below_drew1 (HB1.out.trans (HZ.out.mono HG2.out))⟩
          rw [HV.out]
          show Ending.returned (Value.bool ((((listOf (usedN b.slots)).length : Nat) : Int) == ((b.attrs.length : Nat) : Int))) = _
          congr 2
          rw [Bool.eq_iff_iff, beq_iff_eq, decide_eq_true_eq]
          exact Int.ofNat_inj
end Go.Proofs.Ytemhalnhbgkbcaa.V
end

-- VFCidrMask
section
-- PRINTED by print.py (a twelfth state) out of the translation. Not trusted: Lean checks it.
namespace Go.Proofs.Ytemhalnhbgkbcaa.V
open Go.RowKit Go.Proofs.YtemhalnhbgkbcaaW.PrintWords Go.Proofs.YtemhalnhbgkbcaaW.PrintLast Go.Proofs.YtemhalnhbgkbcaaW.PrintMore
attribute [local go_sem] max2_int min2_int max_two min_two max_three min_three max_four min_four   -- for this text's walks alone
set_option linter.unusedVariables false
set_option linter.unusedSimpArgs false

/-! ### cidr_Mask: function 105 -/
def cidr_Mask.f (a0 : Int) : Option (Int) := some ((IntKind.u64.wrap (4294967296 - (IntKind.u64.wrap (2 ^ (32 - (mn (mx a0 0) 32)).toNat)))) % 4294967296)
set_option maxHeartbeats 8000000 in
set_option maxRecDepth 100000 in
theorem cidr_Mask.calls (a0 : Int) (r : Int) (w : World) (h : cidr_Mask.f a0 = some r) :
    Calls Try.prog 105 #[.int .i64 a0] w fun e w' => e = .returned (.int .u32 r) ∧ Below w.heap.size w w' := by
  have HB := Aside0.mk (Below.refl w.heap.size w)
  have H : (some ((IntKind.u64.wrap (4294967296 - (IntKind.u64.wrap (2 ^ (32 - (mn (mx a0 0) 32)).toNat)))) % 4294967296)) = some r := h
  clear h
  obtain ⟨ji2, hji2⟩ : ∃ j_ : Int, (mx a0 0) = j_ := ⟨_, rfl⟩
  replace H : (some ((IntKind.u64.wrap (4294967296 - (IntKind.u64.wrap (2 ^ (32 - (mn (ji2) 32)).toNat)))) % 4294967296)) = some r := by first | (rw [hji2] at H; exact H) | (simp only [hji2] at H ⊢; exact H)
  (try (have hji2l : 0 ≤ ji2 := by (rw [← hji2]; unfold mx; (repeat' split) <;> omega)))
  (try (have hji2m : 0 ≤ ji2 := by omega))
  have hji2_ : (if a0 < 0 then 0 else a0) = ji2 := hji2
  obtain ⟨ji3, hji3⟩ : ∃ j_ : Int, (mn (ji2) 32) = j_ := ⟨_, rfl⟩
  replace H : (some ((IntKind.u64.wrap (4294967296 - (IntKind.u64.wrap (2 ^ (32 - (ji3)).toNat)))) % 4294967296)) = some r := by first | (rw [hji3] at H; exact H) | (simp only [hji3] at H ⊢; exact H)
  have hji3_ : (if 32 < (ji2) then 32 else (ji2)) = ji3 := hji3
  obtain rfl := Option.some.inj H
  go_enter Try.func105, Try.ntmps105
  go_wp2
  go_ret
  exact ⟨by first | rfl | (simp [errW_none, errW_some] <;> rfl) | (simp only [← hji2, ← hji3]; first | rfl | (simp [errW_none, errW_some] <;> rfl)) | (simp [*, errW_none, errW_some] <;> rfl), by repeat (first | (with_reducible first | exact HB.out | apply below_alloc | apply pw_below_drewN | apply below_drew1) | exact HB.out)⟩
end Go.Proofs.Ytemhalnhbgkbcaa.V
end

-- VFBlockFirst
section
-- PRINTED by print.py (a twelfth state) out of the translation. Not trusted: Lean checks it.
namespace Go.Proofs.Ytemhalnhbgkbcaa.V
open Go.RowKit Go.Proofs.YtemhalnhbgkbcaaW.PrintWords Go.Proofs.YtemhalnhbgkbcaaW.PrintLast Go.Proofs.YtemhalnhbgkbcaaW.PrintMore
attribute [local go_sem] max2_int min2_int max_two min_two max_three min_three max_four min_four   -- for this text's walks alone
set_option linter.unusedVariables false
set_option linter.unusedSimpArgs false

/-! ### block_first: function 80 -/
def block_first.f (a0 : Int) : Option (Int) := (cidr_Mask.f 26).bind fun t80101 => (some (Go.bits .and .u32 a0 t80101))
set_option maxHeartbeats 8000000 in
set_option maxRecDepth 100000 in
theorem block_first.calls (a0 : Int) (r : Int) (w : World) (h : block_first.f a0 = some r) :
    Calls Try.prog 80 #[.int .u32 a0] w fun e w' => e = .returned (.int .u32 r) ∧ Below w.heap.size w w' := by
  have HB := Aside0.mk (Below.refl w.heap.size w)
  have H : ((cidr_Mask.f 26).bind fun t80101 => (some (Go.bits .and .u32 a0 t80101))) = some r := h
  clear h
  replace H := Option.bind_eq_some_iff.mp H
  obtain ⟨t80101, A20, H⟩ := H
  replace H : (some (Go.bits .and .u32 a0 t80101)) = some r := H
  have A2 := Aside0.mk A20
  clear A20
  obtain rfl := Option.some.inj H
  go_enter Try.func80, Try.ntmps80
  go_wp2_with (first | ((with_reducible refine gate_callee (f := 105) rfl ?_); refine goesL_ (some 4) rfl rfl Try.func105 (by kernel_rfl) rfl #[.int .i64 26] rfl (by (try simp only [List.map_toArray, List.map_cons, List.map_nil]); first | done | rfl | (simp only [List.length_drop, List.length_take]; rfl)) ?_; (with_reducible refine (cidr_Mask.calls 26 t80101 _ A2.out).mono ?_); rintro e w3 ⟨rfl, hb⟩; refine ⟨_, rfl, ?_⟩; have n0_ := Aside0.mk (below_step (by repeat (first | (with_reducible first | exact HB.out | apply below_alloc | apply pw_below_drewN | apply below_drew1) | exact HB.out)) hb); clear HB; have HB := n0_; clear n0_; (try clear hb); (try clear hb2); (try clear hk); (try clear hi)))
  go_ret
  exact ⟨by first | rfl | (simp [errW_none, errW_some] <;> rfl) | (simp [*, errW_none, errW_some] <;> rfl), by repeat (first | (with_reducible first | exact HB.out | apply below_alloc | apply pw_below_drewN | apply below_drew1) | exact HB.out)⟩
end Go.Proofs.Ytemhalnhbgkbcaa.V
end

-- VFBlockOwner
section
-- PRINTED by print.py (a twelfth state) out of the translation. Not trusted: Lean checks it.
namespace Go.Proofs.Ytemhalnhbgkbcaa.V
open Go.RowKit Go.Proofs.YtemhalnhbgkbcaaW.PrintWords Go.Proofs.YtemhalnhbgkbcaaW.PrintLast Go.Proofs.YtemhalnhbgkbcaaW.PrintMore
attribute [local go_sem] max2_int min2_int max_two min_two max_three min_three max_four min_four   -- for this text's walks alone
set_option linter.unusedVariables false
set_option linter.unusedSimpArgs false

/-! ### block_owner: function 79 -/
def block_owner.f (a0 : ByteArray) : Option (Bool) := if a0.toList = ([] : List UInt8) then (some true) else ((names_Right.f a0).bind fun t79101 => (some t79101))
set_option maxHeartbeats 8000000 in
set_option maxRecDepth 100000 in
theorem block_owner.calls (a0 : ByteArray) (r : Bool) (w : World) (h : block_owner.f a0 = some r) :
    Calls Try.prog 79 #[.string a0] w fun e w' => e = .returned (.bool r) ∧ Below w.heap.size w w' := by
  have HB := Aside0.mk (Below.refl w.heap.size w)
  have H : (if a0.toList = ([] : List UInt8) then (some true) else ((names_Right.f a0).bind fun t79101 => (some t79101))) = some r := h
  clear h
  by_cases c2 : a0.toList = ([] : List UInt8)
  · rw [if_pos c2] at H
    have c2b0 : (a0.toList == ([] : List UInt8)) = true := beq_iff_eq.mpr c2
    have c2b1 : (a0.toList != ([] : List UInt8)) = false := bne_eq_false_iff_eq.mpr c2
    clear c2
    obtain rfl := Option.some.inj H
    go_enter Try.func79, Try.ntmps79
    go_wp2
    go_ret
    exact ⟨by first | rfl | (simp [errW_none, errW_some] <;> rfl) | (simp [*, errW_none, errW_some] <;> rfl), by repeat (first | (with_reducible first | exact HB.out | apply below_alloc | apply pw_below_drewN | apply below_drew1) | exact HB.out)⟩
  · rw [if_neg c2] at H
    have c2b0 : (a0.toList == ([] : List UInt8)) = false := beq_eq_false_iff_ne.mpr c2
    have c2b1 : (a0.toList != ([] : List UInt8)) = true := bne_iff_ne.mpr c2
    replace H := Option.bind_eq_some_iff.mp H
    obtain ⟨t79101, A30, H⟩ := H
    replace H : (some t79101) = some r := H
    have A3 := Aside0.mk A30
    clear A30
    obtain rfl := Option.some.inj H
    go_enter Try.func79, Try.ntmps79
    go_wp2_with (first | (go_at_call 104; (with_reducible refine (names_Right.calls a0 t79101 _ A3.out).mono ?_); rintro e w4 ⟨rfl, hb⟩; have n0_ := Aside0.mk (below_step (by repeat (first | (with_reducible first | exact HB.out | apply below_alloc | apply pw_below_drewN | apply below_drew1) | exact HB.out)) hb); clear HB; have HB := n0_; clear n0_; (try clear hb); (try clear hb2); (try clear hk); (try clear hi)))
    go_ret
    exact ⟨by first | rfl | (simp [errW_none, errW_some] <;> rfl) | (simp [*, errW_none, errW_some] <;> rfl), by repeat (first | (with_reducible first | exact HB.out | apply below_alloc | apply pw_below_drewN | apply below_drew1) | exact HB.out)⟩
end Go.Proofs.Ytemhalnhbgkbcaa.V
end

