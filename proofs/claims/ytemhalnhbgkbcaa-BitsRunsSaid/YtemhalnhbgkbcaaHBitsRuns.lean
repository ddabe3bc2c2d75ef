/- The law BitsRuns: the walk: both programs' runs are one list. -/
import Derived.Test.YtemhalnhbgkbcaaHLaw14
import Derived.OpenShut
import Derived.ProofKit
namespace Go.Proofs.Ytemhalnhbgkbcaa.V
open Go.RowKit Go.Proofs.YtemhalnhbgkbcaaW.PrintWords Go.Proofs.YtemhalnhbgkbcaaW.PrintLast Go.Proofs.YtemhalnhbgkbcaaW.PrintMore
set_option linter.unusedVariables false
set_option linter.unusedSimpArgs false
attribute [local go_sem high] eqArr2
set_option maxHeartbeats 4000000 in
set_option maxRecDepth 100000 in
theorem bitsRuns_any (s : Nat) (hs : s < 18446744073709551616) (w : World) : Calls Try.prog 3 #[.int .u64 (s : Int)] w fun e w' => e = .returned (.bool true) ∧ Below w.heap.size w w' := by
  have HS := Aside0.mk hs
  clear hs
  go_enter Try.func3, Try.ntmps3
  go_wp2_with (first | (go_at_call 15; refine (runs_any s HS.out _).mono ?_; rintro e W1 ⟨v, rfl, hR, hb⟩; obtain ⟨A, c, rfl, _, hC⟩ := Kd.R_reads hR; have HC := Aside0.mk hC; have HB := Aside0.mk hb; clear hR hb hC) | (go_at_call 16; refine (r14_Runs_any s HS.out _).mono ?_; rintro e W2 ⟨v, rfl, hR, hb⟩; obtain ⟨A', c', rfl, _, hC⟩ := Kd.R_reads hR; have HC' := Aside0.mk hC; have HC2 := Aside0.mk (Kd.C_below HC.out hb); have HB2 := Aside0.mk (below_step HB.out hb); clear hR hb hC))
  have hlen : (runsOf s).length ≤ 64 := runsF_length s 64
  generalize runsOf s = L at *
  go_loopw [5, 17] (fun _ i W => ∃ q : Nat, q ≤ L.length ∧ i = .int .i64 q ∧ Drawn0 W2 W) (fun _ i _ => L.length - (intOf i).toNat)
  case atStart => exact ⟨0, by omega, rfl, Drawn0.refl _⟩
  case round =>
    obtain ⟨q, hq, rfl, ⟨m, rfl⟩⟩ := hrel
    by_cases hq2 : q < L.length
    · have hqb : decide ((q : Int) < (L.length : Int)) = true := by simp; omega
      obtain ⟨ad, rfl, h0, h1⟩ := k2_at HC2.out q hq2
      obtain ⟨ad', rfl, h0', h1'⟩ := k2_at HC'.out q hq2
      go_wp2
      go_quiet (fail)
      go_wp2
      go_roundw
      case rel => exact ⟨q + 1, by omega, by go_num, by repeat (first | exact Drawn0.refl _ | apply Drawn0.step)⟩
      case measure => simp [intOf]; omega
    · obtain rfl : q = L.length := by omega
      go_wp2_with (go_at_call 17; refine (awake14_any _).mono ?_; rintro e W3 ⟨rfl, hb⟩; have HB3 := Aside0.mk hb; clear hb)
      go_ret
      exact ⟨rfl, below_step (pw_below_drewN HB2.out m) HB3.out⟩
theorem u64_nat {a : Int} (h : (Lit.int .u64 a).wf = true) : ∃ n : Nat, a = (n : Int) ∧ n < 18446744073709551616 := by
  have := bounds_u64 h
  exact ⟨a.toNat, by omega, by omega⟩
theorem bitsRuns_walk (a0 : Int) (w : World) (w0 : (Lit.int .u64 a0).wf = true) : Calls Try.prog 3 #[.int .u64 a0] w fun e w' => e = .returned (.bool true) ∧ Below w.heap.size w w' := by
  obtain ⟨n, rfl, hn⟩ := u64_nat w0
  exact bitsRuns_any n hn w
end Go.Proofs.Ytemhalnhbgkbcaa.V
