/- bits.All by hand: the first so many slots. -/
import Derived.Test.YtemhalnhbgkbcaaV0
import Derived.Test.YtemhalnhbgkbcaaVFBitsOne
import Derived.Test.YtemhalnhbgkbcaaHBase
namespace Go.Proofs.Ytemhalnhbgkbcaa.V
open Go.RowKit Go.Proofs.YtemhalnhbgkbcaaW.PrintWords Go.Proofs.YtemhalnhbgkbcaaW.PrintLast Go.Proofs.YtemhalnhbgkbcaaW.PrintMore
attribute [local go_sem] max2_int min2_int max_two min_two
set_option linter.unusedVariables false
set_option linter.unusedSimpArgs false

def bits_All.f (a0 : Int) : Option Int := some (if a0 < 0 then 0 else if 64 ≤ a0 then 18446744073709551615 else 2 ^ a0.toNat - 1)
set_option maxHeartbeats 1000000 in
theorem bits_All.calls (a0 : Int) (r : Int) (w : World) (h : bits_All.f a0 = some r) :
    Calls Try.prog 24 #[.int .i64 a0] w fun e w' => e = .returned (.int .u64 r) ∧ Drawn0 w w' := by
  unfold bits_All.f at h
  by_cases c0 : a0 < 0
  · rw [if_pos c0] at h
    obtain rfl := Option.some.inj h
    clear h
    go_enter Try.func24, Try.ntmps24
    go_wp2
    go_ret
    exact ⟨rfl, Drawn0.refl _⟩
  · rw [if_neg c0] at h
    by_cases c1 : 64 ≤ a0
    · rw [if_pos c1] at h
      obtain rfl := Option.some.inj h
      clear h
      by_cases c2 : a0 = 64
      · subst c2
        clear c0 c1
        go_enter Try.func24, Try.ntmps24
        go_wp2
        go_ret
        exact ⟨rfl, Drawn0.refl _⟩
      · have c3 : 64 < a0 := by omega
        clear c1 c2
        go_enter Try.func24, Try.ntmps24
        go_wp2
        go_ret
        exact ⟨rfl, Drawn0.refl _⟩
    · rw [if_neg c1] at h
      obtain rfl := Option.some.inj h
      clear h
      obtain ⟨n, rfl⟩ := Int.eq_ofNat_of_zero_le (show 0 ≤ a0 by omega)
      have hn : n < 64 := by omega
      have hb : ((n : Int) == 64) = false := by simp; omega
      clear c0 c1
      go_enter Try.func24, Try.ntmps24
      go_wp2
      go_ret
      refine ⟨?_, Drawn0.refl _⟩
      show Ending.returned (.int .u64 (IntKind.u64.wrap (IntKind.u64.wrap (2 ^ n) - 1))) = _
      have h1 := two_pow_lt64 n hn
      have h2 : (1 : Nat) ≤ 2 ^ n := Nat.one_le_two_pow
      have e1 : ((2 : Int) ^ n) = ((2 ^ n : Nat) : Int) := by simp
      rw [e1, wrap_u64_nat _ h1, wrap_u64 _ (by omega) (by omega), Int.toNat_natCast, e1]
end Go.Proofs.Ytemhalnhbgkbcaa.V
