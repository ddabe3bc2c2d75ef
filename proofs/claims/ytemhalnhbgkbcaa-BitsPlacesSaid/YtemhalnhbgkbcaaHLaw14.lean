/- The example of layer 14, and the law on runs. -/
import Derived.Test.YtemhalnhbgkbcaaHR14Runs
import Derived.Test.YtemhalnhbgkbcaaHArr
import Derived.Outline
namespace Go.Proofs.Ytemhalnhbgkbcaa.V
open Go.RowKit Go.Proofs.YtemhalnhbgkbcaaW.PrintWords Go.Proofs.YtemhalnhbgkbcaaW.PrintLast Go.Proofs.YtemhalnhbgkbcaaW.PrintMore
set_option linter.unusedVariables false
set_option linter.unusedSimpArgs false

theorem runs_125 : ofN [1, 2, 5] = 38 := by decide
theorem runsOf_38 : runsOf 38 = [(1, 3), (5, 6)] := by decide +kernel
theorem size_int : ∀ w, (sizeOf 3).run Try.prog w = .ok 1 w := fun w => by kernel_rfl
theorem eqArr2 (d : Nat) (w : World) (x0 x1 y0 y1 : Int) :
    (Op.equalIn (d + 2) 27 (.agg #[.int .i64 x0, .int .i64 x1]) (.agg #[.int .i64 y0, .int .i64 y1])).run Try.prog w = .ok (x0 == y0 && x1 == y1) w := by
  have := run_equalIn_ints w .i64 d 27 3 2 Try.underlying27 Try.underlying3 size_int [x0, x1] [y0, y1] rfl rfl
  rw [show ([x0, x1] == [y0, y1]) = (x0 == y0 && x1 == y1) by simp [List.cons_beq_cons]] at this
  exact this
attribute [local go_sem high] eqArr2
set_option maxHeartbeats 2000000 in
theorem awake14_any (w : World) : Calls Try.prog 17 #[] w fun e w' => e = .returned (.bool true) ∧ Below w.heap.size w w' := by
  go_enter Try.func17, Try.ntmps17
  go_wp2_with (first | (go_at_call 28; refine (of_any [1, 2, 5] 3 rfl _ 3 (by omega) _ (C_new_int .i64 w 3 [1, 2, 5] (by decide))).mono ?_; rintro e w' ⟨rfl, ⟨nd, rfl⟩⟩; rw [runs_125]) | (go_at_call 15; refine (runs_any 38 (by decide) _).mono ?_; rintro e w' ⟨v, rfl, hR, hb⟩; rw [runsOf_38] at hR; obtain ⟨g, cap, rfl, hgb, hgl, _⟩ := Kd.R_form hR (by decide); have hC := (Kd.R_reads' hR).2.2; obtain ⟨ad, e0, h00, h01⟩ := k2_at hC 0 (by decide); obtain ⟨ad', e1, h10, h11⟩ := k2_at hC 1 (by decide); cases e0; cases e1; have k00 : w'.cell? ⟨g, 0, none⟩ = some (.int .i64 1) := h00; have k01 : w'.cell? ⟨g, 1, none⟩ = some (.int .i64 3) := h01; have k10 : w'.cell? ⟨g, 2, none⟩ = some (.int .i64 5) := h10; have k11 : w'.cell? ⟨g, 3, none⟩ = some (.int .i64 6) := h11; clear h00 h01 h10 h11; have HB := Aside0.mk hb; clear hC hR hb))
  go_ret
  refine ⟨rfl, ?_⟩
  exact below_step (by repeat (first | exact Below.refl _ _ | apply below_alloc | apply pw_below_drewN)) HB.out
end Go.Proofs.Ytemhalnhbgkbcaa.V
