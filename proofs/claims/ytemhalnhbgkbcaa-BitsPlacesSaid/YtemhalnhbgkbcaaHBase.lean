/- Small laws of our own, over the words. -/
import Derived.Test.YtemhalnhbgkbcaaWMore
import Derived.Laws.BitsAllLaws
import Derived.Laws.Bits64
namespace Go.Proofs.Ytemhalnhbgkbcaa.V
open Go.RowKit Go.Proofs.YtemhalnhbgkbcaaW.PrintWords Go.Proofs.YtemhalnhbgkbcaaW.PrintLast Go.Proofs.YtemhalnhbgkbcaaW.PrintMore

/-- A set of numbers as a number: the bits i below n with p i. -/
def setNat (p : Nat → Bool) : Nat → Nat
  | 0 => 0
  | n + 1 => setNat p n + if p n then 2 ^ n else 0
theorem setNat_lt (p : Nat → Bool) (n : Nat) : setNat p n < 2 ^ n := by
  induction n with
  | zero => simp [setNat]
  | succ n ih =>
    unfold setNat
    rw [Nat.pow_succ]
    split <;> omega
theorem setNat_testBit (p : Nat → Bool) (n i : Nat) : (setNat p n).testBit i = (decide (i < n) && p i) := by
  induction n with
  | zero => simp [setNat]
  | succ n ih =>
    unfold setNat
    have hlt := setNat_lt p n
    by_cases hp : p n = true
    · rw [if_pos hp, Nat.add_comm]
      rcases Nat.lt_trichotomy i n with h | h | h
      · rw [Nat.testBit_two_pow_add_gt h, ih]
        simp [h, Nat.lt_succ_of_lt h]
      · subst h
        rw [Nat.testBit_two_pow_add_eq, Nat.testBit_lt_two_pow hlt]
        simp [hp]
      · have h2 : 2 ^ n + setNat p n < 2 ^ i := by
          have : 2 ^ (n + 1) ≤ 2 ^ i := Nat.pow_le_pow_right (by omega) h
          rw [Nat.pow_succ] at this
          omega
        rw [Nat.testBit_lt_two_pow h2]
        simp
        omega
    · have hp' : p n = false := by simpa using hp
      rw [hp', if_neg (by simp), Nat.add_zero, ih]
      by_cases h : i < n
      · simp [h, Nat.lt_succ_of_lt h]
      · by_cases h2 : i = n
        · subst h2
          simp [hp']
        · have : ¬ i < n + 1 := by omega
          simp [h, this]
theorem setNat_congr (p q : Nat → Bool) (n : Nat) (h : ∀ i, i < n → p i = q i) : setNat p n = setNat q n := by
  induction n with
  | zero => rfl
  | succ n ih => unfold setNat; rw [ih (fun i hi => h i (by omega)), h n (by omega)]
theorem eq_setNat (s : Nat) (p : Nat → Bool) (n : Nat) (hs : s < 2 ^ n) (h : ∀ i, i < n → s.testBit i = p i) : s = setNat p n := by
  apply Nat.eq_of_testBit_eq
  intro i
  rw [setNat_testBit]
  by_cases hi : i < n
  · rw [h i hi]
    simp [hi]
  · rw [Nat.testBit_lt_two_pow (Nat.lt_of_lt_of_le hs (Nat.pow_le_pow_right (by omega) (by omega)))]
    simp [hi]

theorem wrap_u64 (n : Int) (h0 : 0 ≤ n) (h : n < 18446744073709551616) : IntKind.u64.wrap n = n := by rw [IntKind.wrap_u64]; omega
theorem wrap_u64_nat (n : Nat) (h : n < 18446744073709551616) : IntKind.u64.wrap (n : Int) = (n : Int) := wrap_u64 _ (by omega) (by omega)
theorem wrap64_id (n : Int) (h0 : -9223372036854775808 ≤ n) (h : n < 9223372036854775808) : wrap64 n = n := by unfold wrap64; omega
theorem two_pow_lt64 (i : Nat) (h : i < 64) : (2 : Nat) ^ i < 18446744073709551616 :=
  Nat.lt_of_lt_of_le (Nat.pow_lt_pow_right (by omega) h) (by decide)
theorem two_pow_le64 (i : Nat) (h : i ≤ 64) : (2 : Nat) ^ i ≤ 18446744073709551616 :=
  Nat.le_trans (Nat.pow_le_pow_right (by omega) h) (by decide)
end Go.Proofs.Ytemhalnhbgkbcaa.V
