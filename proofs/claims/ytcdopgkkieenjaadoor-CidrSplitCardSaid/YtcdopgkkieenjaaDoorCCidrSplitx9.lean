/- The law CidrSplit for every input: texts of ours, put together (part 10 of 11). No further condition. -/
import Derived.Test.YtcdopgkkieenjaaDoorCCidrSplitx7
import Derived.Test.YtcdopgkkieenjaaDoorCD6
import Derived.Test.YtcdopgkkieenjaaDoorCCidrSplitx8
-- LCSplit
/- CidrSplit: the plain law and the walk. -/
namespace Go.Proofs.YtcdopgkkieenjaaDoor.V
open Go.RowKit Go.Proofs.YtcdopgkkieenjaaDoorW.PrintWords Go.Proofs.YtcdopgkkieenjaaDoorW.PrintLast Go.Proofs.YtcdopgkkieenjaaDoorW.PrintMore
set_option linter.unusedVariables false
set_option linter.unusedSimpArgs false
theorem lastN_may {a n : Nat} (hm : mayN a (n : Int) = true) : lastN a (n : Int) = a + sz n - 1 := by unfold lastN; rw [if_pos hm]; rfl
/-! ### CidrSplit -/
theorem shl_u64 (q n : Nat) (hn : n ≤ 32) (h : q * 2 ^ n < 18446744073709551616) (hq : q < 18446744073709551616) : shl .u64 (IntKind.u64.wrap (q : Int)) (n : Int) = ((q * 2 ^ n : Nat) : Int) := by
  unfold shl
  rw [wrap_u64_nat q hq, Int.toNat_natCast, show min n IntKind.u64.bits = n from Nat.min_eq_left (by simp [IntKind.bits]; omega), show (q : Int) * 2 ^ n = ((q * 2 ^ n : Nat) : Int) by simp, wrap_u64_nat _ h]
theorem count_parts {a : Nat} {b c : Int} {q : Nat} (h : q < countN a b c) : ∃ n m : Nat, b = n ∧ c = m ∧ n ≤ m ∧ m ≤ 32 ∧ mayN a (n : Int) = true ∧ a % sz n = 0 ∧ countN a b c = 2 ^ (m - n) ∧ sz n = countN a b c * sz m := by
  by_cases hc : mayN a b = true ∧ b ≤ c ∧ c ≤ 32
  · obtain ⟨n, rfl, hn, hd⟩ := may_nat hc.1
    obtain ⟨m, rfl⟩ : ∃ m : Nat, c = m := ⟨c.toNat, by omega⟩
    have e : countN a (n : Int) (m : Int) = 2 ^ (m - n) := by
      unfold countN
      rw [if_pos hc, show (m : Int) - (n : Int) = ((m - n : Nat) : Int) by omega, Int.toNat_natCast]
    refine ⟨n, m, rfl, rfl, by omega, by omega, hc.1, hd, e, ?_⟩
    rw [e]
    unfold sz
    rw [← Nat.pow_add, show m - n + (32 - m) = 32 - n by omega]
  · unfold countN at h
    rw [if_neg hc] at h
    omega
theorem split_fit {a n m q c : Nat} (ha : a < 4294967296) (hd : a % sz n = 0) (hs : sz n = c * sz m) (hq : q < c) : a + q * sz m + sz m ≤ a + sz n ∧ a + sz n ≤ 4294967296 ∧ (a + q * sz m) % sz m = 0 := by
  refine ⟨?_, net_end a n hd ha, ?_⟩
  · have : (q + 1) * sz m ≤ c * sz m := Nat.mul_le_mul_right _ hq
    rw [Nat.add_mul, Nat.one_mul] at this
    omega
  · obtain ⟨t, ht⟩ := Nat.dvd_of_mod_eq_zero hd
    rw [ht, hs, show c * sz m * t + q * sz m = sz m * (c * t + q) by rw [Nat.mul_add, Nat.mul_comm q, Nat.mul_comm c, Nat.mul_assoc]]
    exact Nat.mul_mod_right _ _
theorem nth_out (a : Nat) (ha : a < 4294967296) (b c q : Int) (hc1 : -9223372036854775808 ≤ c) (hc2 : c ≤ 9223372036854775807) (h : q < 0 ∨ (countN a b c : Int) ≤ q) : cidr_Net_Nth.f (a : Int) b c q = some (0, 0, 1) := by
  unfold cidr_Net_Nth.f
  by_cases h1 : q < 0
  · rw [if_pos h1]
  · rw [if_neg h1, count_f a ha b c hc1 hc2, Option.bind_some, if_pos (by omega)]
theorem nth_in (a : Nat) (ha : a < 4294967296) (b c : Int) (q : Nat) (hc1 : -9223372036854775808 ≤ c) (hc2 : c ≤ 9223372036854775807) (h : q < countN a b c) : cidr_Net_Nth.f (a : Int) b c (q : Int) = some (((a + q * sz c.toNat : Nat) : Int), c, 0) := by
  have hcount := count_f a ha b c hc1 hc2
  obtain ⟨n, m, rfl, rfl, h1, h2, h3, h4, h5, h6⟩ := count_parts h
  obtain ⟨f1, f2, f3⟩ := split_fit ha h4 h6 h
  have g1 := sz_pos m
  unfold cidr_Net_Nth.f
  rw [if_neg (by omega), hcount, Option.bind_some, if_neg (by omega), show (32 : Int) - (m : Int) = ((32 - m : Nat) : Int) by omega, wrap64_id _ (by omega) (by omega), if_pos (by omega)]
  have hq : q * 2 ^ (32 - m) = q * sz m := rfl
  have hq2 : q ≤ q * sz m := Nat.le_mul_of_pos_right q g1
  rw [shl_u64 q (32 - m) (by omega) (by rw [hq]; omega) (by omega), hq, Int.toNat_natCast]
  congr 2
  omega
theorem u64_shift (c : Int) (m : Nat) (h : c = m) (hm : m ≤ 32) : IntKind.u64.wrap (wrap64 (32 - c)) = ((32 - m : Nat) : Int) := by
  subst h
  rw [show (32 : Int) - (m : Int) = ((32 - m : Nat) : Int) by omega, wrap64_id _ (by omega) (by omega), wrap_u64_nat _ (by omega)]
theorem split_j1 (a : Nat) (ha : a < 4294967296) (n m q : Nat) (hc2 : (m : Int) ≤ 9223372036854775807) (k : Nat) (hk : 40 ≤ k) (h : q < countN a (n : Int) (m : Int)) :
    virgatelaw02_CidrSplit.j1 (k + 1) (m : Int) (q : Int) ((countN a (n : Int) (m : Int) : Nat) : Int) false (a : Int) (n : Int) ((a + q * sz m : Nat) : Int) (m : Int) = some true := by
  obtain ⟨n', m', e1, e2, h1, h2, h3, h4, h5, h6⟩ := count_parts h
  obtain rfl : n = n' := by omega
  obtain rfl : m = m' := by omega
  obtain ⟨f1, f2, f3⟩ := split_fit ha h4 h6 h
  have g1 := sz_pos m; have g2 := sz_pos n
  have hmm : mayN (a + q * sz m) (m : Int) = true := may_mk h2 f3
  have hcl : countN a (n : Int) (m : Int) ≤ 4294967296 := by
    rw [h5]
    have : (2 : Nat) ^ (m - n) ≤ 2 ^ 32 := Nat.pow_le_pow_right (by omega) (by omega)
    rw [show (2 : Nat) ^ 32 = 4294967296 by decide] at this
    exact this
  have l1 := lastN_may hmm
  have l2 := lastN_may h3
  have hN := fun (h' : q + 1 < countN a (n : Int) (m : Int)) => nth_in a ha (n : Int) (m : Int) (q + 1) (by omega) hc2 h'
  rw [virgatelaw02_CidrSplit.j1, if_neg (by decide)]
  generalize countN a (n : Int) (m : Int) = cnt at h hcl hN h6 ⊢
  rw [wrap64_id ((cnt : Int) - 1) (by omega) (by omega)]
  by_cases hq : (q : Int) = (cnt : Int) - 1
  · have hq' : cnt = q + 1 := by omega
    subst hq'
    rw [Nat.add_mul, Nat.one_mul] at h6
    rw [if_pos hq, last_f _ (by omega), Option.bind_some, last_f a ha, Option.bind_some, l1, l2, if_pos (by omega), awake02_f k (by omega)]
    rfl
  · have hN' := hN (by omega)
    rw [Int.toNat_natCast, Nat.add_mul, Nat.one_mul] at hN'
    have f4 : a + q * sz m + sz m ≤ 4294967296 := by omega
    have f5 : a + (q * sz m + sz m) < 4294967296 := by
      have : (q + 2) * sz m ≤ cnt * sz m := Nat.mul_le_mul_right _ (by omega)
      rw [Nat.add_mul] at this
      omega
    rw [if_neg hq, wrap64_id ((q : Int) + 1) (by omega) (by omega), show (q : Int) + 1 = ((q + 1 : Nat) : Int) by omega, hN', Option.bind_some, if_pos rfl, last_f _ (by omega), Option.bind_some, l1]
    generalize q * sz m = y at f1 f2 f4 f5 g1 ⊢
    rw [wrap64_id ((a + y + sz m - 1 : Nat) : Int) (by omega) (by omega), wrap64_id (((a + y + sz m - 1 : Nat) : Int) + 1) (by omega) (by omega), wrap64_id ((a + (y + sz m) : Nat) : Int) (by omega) (by omega), if_pos (by omega), awake02_f k (by omega)]
    rfl
theorem cidrSplit_law (a : Nat) (ha : a < 4294967296) (b c q : Int) (hc1 : -9223372036854775808 ≤ c) (hc2 : c ≤ 9223372036854775807) : virgatelaw02_CidrSplit.f 60 (a : Int) b c q = some true := by
  have fin : (q < 0 ∨ (countN a b c : Int) ≤ q) → virgatelaw02_CidrSplit.j0 60 c q ((countN a b c : Nat) : Int) 1 true (a : Int) b (a : Int) b 0 0 = some true := by
    intro h
    rw [virgatelaw02_CidrSplit.j0, if_pos rfl, if_pos rfl, if_pos (by decide), awake02_f 59 (by omega)]
    rfl
  unfold virgatelaw02_CidrSplit.f
  rw [ours_f, Option.bind_some, rcount_f a ha b c hc1 hc2 60 (by omega), Option.bind_some]
  by_cases h1 : q < 0
  · rw [nth_out a ha b c q hc1 hc2 (.inl h1), Option.bind_some, count_f a ha b c hc1 hc2, Option.bind_some, if_pos rfl, if_pos h1]
    exact fin (.inl h1)
  · by_cases h2 : q ≥ (countN a b c : Int)
    · rw [nth_out a ha b c q hc1 hc2 (.inr h2), Option.bind_some, count_f a ha b c hc1 hc2, Option.bind_some, if_pos rfl, if_neg h1, decide_eq_true h2]
      exact fin (.inr h2)
    · obtain ⟨y, rfl⟩ : ∃ y : Nat, q = y := ⟨q.toNat, by omega⟩
      have hy : y < countN a b c := by omega
      have hnth := nth_in a ha b c y hc1 hc2 hy
      have hcount := count_f a ha b c hc1 hc2
      obtain ⟨n, m, rfl, rfl, g1, g2, g3, g4, g5, g6⟩ := count_parts hy
      have hj1 := split_j1 a ha n m y hc2 58 (by omega) hy
      obtain ⟨f1, f2, f3⟩ := split_fit ha g4 g6 hy
      have p1 := sz_pos m
      have hmm : mayN (a + y * sz m) (m : Int) = true := may_mk g2 f3
      have hcov : coversN a (n : Int) (a + y * sz m) (m : Int) = true := by
        unfold coversN hasN
        rw [hmm, g3, Int.toNat_natCast]
        simp only [Bool.true_and, Bool.and_eq_true, decide_eq_true_eq]
        omega
      rw [Int.toNat_natCast] at hnth
      rw [hnth, Option.bind_some, hcount, Option.bind_some, if_pos rfl, if_neg h1, decide_eq_false h2, virgatelaw02_CidrSplit.j0, if_neg (by decide), u64_shift _ m rfl g2, if_pos (by omega), if_pos rfl, if_pos rfl, shl1 _ (by omega), show (2 : Nat) ^ (32 - m) = sz m from rfl]
      have hz : (y : Int) * (sz m : Int) = ((y * sz m : Nat) : Int) := by simp
      have hw1 : Aside0 (wrap64 ((y : Int) * (sz m : Int)) = ((y * sz m : Nat) : Int)) := ⟨by rw [hz]; exact wrap64_id _ (by omega) (by omega)⟩
      rw [hw1.out, covers_f a ha _ _ (by omega), hcov]
      generalize y * sz m = u at f1 f2 f3 hj1 hw1 ⊢
      rw [wrap64_id ((a + u : Nat) : Int) (by omega) (by omega), wrap64_id (a : Int) (by omega) (by omega), wrap64_id ((a : Int) + (u : Int)) (by omega) (by omega), if_pos (by omega), Option.bind_some]
      exact hj1
theorem cidrSplit_walk (v : Value) (x : Int × Int) (a1 a2 : Int) (w : World) (h : NetIs v x) (w1 : (Lit.int .i64 a1).wf = true) (w2 : (Lit.int .i64 a2).wf = true) : Calls Tryd.prog 12 #[v, .int .i64 a1, .int .i64 a2] w fun e w' => e = .returned (.bool true) ∧ Below w.heap.size w w' := by
  obtain ⟨rfl, v0, v1⟩ := h
  obtain ⟨a, b⟩ := x
  obtain ⟨n, rfl, hn⟩ := wf_u32 v0
  exact virgatelaw02_CidrSplit.calls 60 _ _ _ _ true w (cidrSplit_law n hn b a1 a2 (wf_i64 w1).1 (wf_i64 w1).2)
end Go.Proofs.YtcdopgkkieenjaaDoor.V
