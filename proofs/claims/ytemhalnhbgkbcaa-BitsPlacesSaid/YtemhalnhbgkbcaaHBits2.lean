/- bits: how many, the least, the greatest, one by its place. -/
import Derived.Test.YtemhalnhbgkbcaaHBits
import Derived.Test.YtemhalnhbgkbcaaVFBitsSetLow
import Derived.Test.YtemhalnhbgkbcaaVFBitsSetHigh
import Derived.Test.YtemhalnhbgkbcaaVFBitsSetNth
namespace Go.Proofs.Ytemhalnhbgkbcaa.V
open Go.RowKit Go.Proofs.YtemhalnhbgkbcaaW.PrintWords Go.Proofs.YtemhalnhbgkbcaaW.PrintLast Go.Proofs.YtemhalnhbgkbcaaW.PrintMore

/-- m is the least one in s. -/
structure Least (s m : Nat) : Prop where
  here : s.testBit m = true
  below : ∀ j, j < m → s.testBit j = false
theorem least_ex (s : Nat) (h : s ≠ 0) : ∃ m, Least s m := by
  obtain ⟨i, hi⟩ := Nat.exists_testBit_of_ne_zero h
  have : ∀ n, (∃ j, j < n ∧ s.testBit j = true) → ∃ m, Least s m := by
    intro n
    induction n with
    | zero => rintro ⟨j, h, _⟩; omega
    | succ n ih =>
      intro hex
      by_cases hb : ∃ j, j < n ∧ s.testBit j = true
      · exact ih hb
      · obtain ⟨j, h1, h2⟩ := hex
        have hj : j = n := by
          rcases Nat.lt_or_ge j n with h3 | h3
          · exact absurd ⟨j, h3, h2⟩ hb
          · omega
        subst hj
        exact ⟨j, h2, fun t ht => by
          cases hc : s.testBit t with
          | false => rfl
          | true => exact absurd ⟨t, ht, hc⟩ hb⟩
  exact this (i + 1) ⟨i, by omega, hi⟩
theorem Least.form {s m : Nat} (h : Least s m) : ∃ q, s = 2 ^ m * (2 * q + 1) := by
  have h0 : s % 2 ^ m = 0 := by
    apply Nat.eq_of_testBit_eq
    intro j
    rw [Nat.testBit_mod_two_pow, Nat.zero_testBit]
    by_cases hj : j < m
    · simp [h.below j hj]
    · simp [hj]
  have h1 := h.here
  rw [testBit_eq_mod, decide_eq_true_eq] at h1
  refine ⟨s / 2 ^ m / 2, ?_⟩
  have h2 : 2 * (s / 2 ^ m / 2) + 1 = s / 2 ^ m := by omega
  rw [h2, Nat.mul_comm]
  exact (Nat.div_mul_cancel (Nat.dvd_of_mod_eq_zero h0)).symm
def clearLow (s : Nat) : Nat := s &&& (s - 1)
theorem clearLow_testBit {s m : Nat} (h : Least s m) (j : Nat) : (clearLow s).testBit j = (s.testBit j && decide (j ≠ m)) := by
  obtain ⟨q, hq⟩ := h.form
  have hp : 0 < 2 ^ m := Nat.pos_of_ne_zero (by simp)
  have hs1 : s - 1 = 2 ^ m * (2 * q) + (2 ^ m - 1) := by rw [hq, Nat.mul_add]; omega
  have hd : (s - 1) / 2 ^ m = 2 * q := by
    rw [hs1, Nat.mul_add_div hp, Nat.div_eq_of_lt (by omega), Nat.add_zero]
  have hd0 : s / 2 ^ m = 2 * q + 1 := by rw [hq, Nat.mul_div_cancel_left _ hp]
  unfold clearLow
  rw [Nat.testBit_and]
  rcases Nat.lt_trichotomy j m with hj | hj | hj
  · simp [h.below j hj]
  · subst hj
    rw [testBit_eq_mod (s - 1), hd]
    first | (simp; done) | (simp; omega)
  · obtain ⟨i, rfl⟩ : ∃ i, j = m + 1 + i := ⟨j - m - 1, by omega⟩
    have e : ∀ x : Nat, x / 2 ^ (m + 1 + i) = x / 2 ^ m / 2 / 2 ^ i := by
      intro x
      rw [Nat.pow_add, Nat.pow_succ, ← Nat.div_div_eq_div_mul, ← Nat.div_div_eq_div_mul]
    rw [testBit_eq_mod (s - 1), testBit_eq_mod s, e, e, hd, hd0, show (2 * q + 1) / 2 = q by omega, show (2 * q) / 2 = q by omega]
    simp
    omega
theorem listN_low {s m : Nat} (h : Least s m) (n : Nat) : listN s n = if n ≤ m then [] else (m : Int) :: listN (clearLow s) n := by
  induction n with
  | zero => simp [listN]
  | succ n ih =>
    rw [listN_succ, listN_succ, ih, clearLow_testBit h n]
    rcases Nat.lt_trichotomy n m with hj | hj | hj
    · rw [h.below n hj, if_neg (by simp), if_pos (by omega), if_pos (by omega)]
    · subst hj
      have e : ∀ t, t ≤ n → listN (clearLow s) t = [] := by
        intro t
        induction t with
        | zero => intro _; simp [listN]
        | succ t iht =>
          intro ht
          rw [listN_succ, iht (by omega), clearLow_testBit h t, h.below t (by omega)]
          simp
      rw [if_pos h.here, if_pos (Nat.le_refl _), if_neg (by omega), e n (Nat.le_refl _)]
      simp
    · have hne : decide (n ≠ m) = true := by simp; omega
      have e1 : ¬ n ≤ m := by omega
      have e2 : ¬ n + 1 ≤ m := by omega
      rw [hne, Bool.and_true]
      simp only [e1, e2, if_false]
      split <;> simp
theorem Least.lt {s m : Nat} (h : Least s m) (hs : s < 18446744073709551616) : m < 64 := by
  rcases Nat.lt_or_ge m 64 with hl | hl
  · exact hl
  · have := Nat.ge_two_pow_of_testBit h.here
    have h2 : 2 ^ 64 ≤ 2 ^ m := Nat.pow_le_pow_right (by omega) hl
    omega
theorem listOf_low {s m : Nat} (h : Least s m) (hs : s < 18446744073709551616) : listOf s = (m : Int) :: listOf (clearLow s) := by
  unfold listOf
  rw [listN_low h 64, if_neg (by have := h.lt hs; omega)]
theorem listOf_zero : listOf 0 = [] := by
  unfold listOf listN
  simp
theorem clearLow_lt (s : Nat) (hs : s < 18446744073709551616) : clearLow s < 18446744073709551616 := Nat.lt_of_le_of_lt Nat.and_le_left hs
theorem clear_f (s : Nat) (hs : s < 18446744073709551616) (h : s ≠ 0) : Go.bits .and .u64 (s : Int) (IntKind.u64.wrap ((s : Int) - 1)) = ((clearLow s : Nat) : Int) := by
  rw [show (s : Int) - 1 = ((s - 1 : Nat) : Int) by omega, wrap_u64_nat _ (by omega), u64_and_nat _ _ hs (by omega)]
  rfl
theorem len_l0 : ∀ (L : List Int) (s k c : Nat), s < 18446744073709551616 → listOf s = L → c + L.length ≤ 64 → L.length < k → bits_Set_Len.l0 k (s : Int) (c : Int) = some ((c + L.length : Nat) : Int) := by
  intro L
  induction L with
  | nil =>
    intro s k c hs hL hc hk
    obtain ⟨k, rfl⟩ : ∃ m, k = m + 1 := ⟨k - 1, by omega⟩
    have h0 : s = 0 := by
      by_cases h : s = 0
      · exact h
      · obtain ⟨m, hm⟩ := least_ex s h
        rw [listOf_low hm hs] at hL
        cases hL
    subst h0
    unfold bits_Set_Len.l0
    rw [if_pos (show ((0 : Nat) : Int) = 0 from rfl)]
    rfl
  | cons x L ih =>
    intro s k c hs hL hc hk
    simp only [List.length_cons] at hc hk ⊢
    obtain ⟨k, rfl⟩ : ∃ m, k = m + 1 := ⟨k - 1, by omega⟩
    have h0 : s ≠ 0 := by
      rintro rfl
      rw [listOf_zero] at hL
      cases hL
    obtain ⟨m, hm⟩ := least_ex s h0
    rw [listOf_low hm hs] at hL
    injection hL with _ hL
    unfold bits_Set_Len.l0
    rw [if_neg (by omega), clear_f s hs h0, show wrap64 ((c : Int) + 1) = ((c + 1 : Nat) : Int) by unfold wrap64; omega, ih (clearLow s) k (c + 1) (clearLow_lt s hs) hL (by omega) (by omega)]
    congr 2
    omega
theorem listOf_length (s : Nat) : (listOf s).length ≤ 64 := listN_length s 64
theorem len_f (s : Nat) (hs : s < 18446744073709551616) (k : Nat) (hk : 64 < k) : bits_Set_Len.f k (s : Int) = some ((listOf s).length : Int) := by
  have hl := listOf_length s
  have := len_l0 (listOf s) s k 0 hs rfl (by omega) (by omega)
  simpa [bits_Set_Len.f] using this
theorem len_any (s : Nat) (hs : s < 18446744073709551616) (w : World) : Calls Try.prog 27 #[.int .u64 (s : Int)] w fun e w' => e = .returned (.int .i64 ((listOf s).length : Int)) ∧ Drawn0 w w' :=
  bits_Set_Len.calls 65 _ _ w (len_f s hs 65 (by omega))

/-- Low: the least one. -/
theorem low_l0 {s m : Nat} (h : Least s m) (hs : s < 18446744073709551616) : ∀ (d k i : Nat), i + d = m → d < k → bits_Set_Low.l0 k ((s / 2 ^ i : Nat) : Int) (i : Int) = some ((m : Int), true) := by
  have hm := h.lt hs
  intro d
  induction d with
  | zero =>
    intro k i hi hk
    obtain ⟨k, rfl⟩ : ∃ m, k = m + 1 := ⟨k - 1, by omega⟩
    obtain rfl : i = m := by omega
    have hb := h.here
    rw [testBit_eq_mod, decide_eq_true_eq] at hb
    unfold bits_Set_Low.l0
    rw [and_one _ (Nat.lt_of_le_of_lt (Nat.div_le_self _ _) hs), hb, if_neg (by decide)]
  | succ d ih =>
    intro k i hi hk
    obtain ⟨k, rfl⟩ : ∃ m, k = m + 1 := ⟨k - 1, by omega⟩
    have hb := h.below i (by omega)
    rw [testBit_eq_mod, decide_eq_false_iff_not] at hb
    have hb0 : s / 2 ^ i % 2 = 0 := by omega
    unfold bits_Set_Low.l0
    rw [and_one _ (Nat.lt_of_le_of_lt (Nat.div_le_self _ _) hs), hb0, if_pos (show ((0 : Nat) : Int) = 0 from rfl), half_nat, Nat.div_div_eq_div_mul, ← Nat.pow_succ, show wrap64 ((i : Int) + 1) = ((i + 1 : Nat) : Int) by unfold wrap64; omega]
    exact ih k (i + 1) (by omega) (by omega)
/-- The first of a list, and whether there is one. -/
def firstOf (l : List Int) : Int × Bool := match l with | [] => (0, false) | x :: _ => (x, true)
theorem low_f (s : Nat) (hs : s < 18446744073709551616) (k : Nat) (hk : 64 < k) : bits_Set_Low.f k (s : Int) = some (firstOf (listOf s)) := by
  unfold bits_Set_Low.f
  by_cases h : s = 0
  · subst h
    rw [if_pos (show ((0 : Nat) : Int) = 0 from rfl), listOf_zero]
    rfl
  · rw [if_neg (by omega)]
    obtain ⟨m, hm⟩ := least_ex s h
    have hl := hm.lt hs
    have := low_l0 hm hs m k 0 (by omega) (by omega)
    rw [Nat.pow_zero, Nat.div_one] at this
    rw [listOf_low hm hs]
    exact this
/-- Nth: the least one behind so many. -/
theorem nth_l0 : ∀ (q s k : Nat), s < 18446744073709551616 → q < (listOf s).length → q + 65 < k → bits_Set_Nth.l0 k (s : Int) (q : Int) = some (firstOf ((listOf s).drop q)) := by
  intro q
  induction q with
  | zero =>
    intro s k hs hq hk
    obtain ⟨k, rfl⟩ : ∃ m, k = m + 1 := ⟨k - 1, by omega⟩
    simp only [bits_Set_Nth.l0]
    rw [if_neg (by omega), low_f s hs k (by omega)]
    rfl
  | succ q ih =>
    intro s k hs hq hk
    obtain ⟨k, rfl⟩ : ∃ m, k = m + 1 := ⟨k - 1, by omega⟩
    have h0 : s ≠ 0 := by
      rintro rfl
      rw [listOf_zero] at hq
      simp at hq
    obtain ⟨m, hm⟩ := least_ex s h0
    have hL := listOf_low hm hs
    simp only [bits_Set_Nth.l0]
    rw [if_pos (by omega), clear_f s hs h0, show wrap64 (((q + 1 : Nat) : Int) - 1) = ((q : Nat) : Int) by have := listOf_length s; unfold wrap64; omega]
    rw [hL] at hq ⊢
    simp only [List.length_cons] at hq
    rw [ih (clearLow s) k (clearLow_lt s hs) (by omega) (by omega)]
    rfl
def nthOf (l : List Int) (q : Int) : Int × Bool := if q < 0 then (0, false) else firstOf (l.drop q.toNat)
theorem nth_f (s : Nat) (hs : s < 18446744073709551616) (q : Int) (k : Nat) (hk : 130 < k) : bits_Set_Nth.f k (s : Int) q = some (nthOf (listOf s) q) := by
  unfold bits_Set_Nth.f nthOf
  have hl := listOf_length s
  obtain ⟨k, rfl⟩ : ∃ m, k = m + 1 := ⟨k - 1, by omega⟩
  by_cases h : q < 0
  · rw [if_pos h, if_pos h]
    simp only [bits_Set_Nth.j0]
    rfl
  · rw [if_neg h, if_neg h, len_f s hs _ (by omega), Option.bind_some]
    obtain ⟨n, rfl⟩ := Int.eq_ofNat_of_zero_le (show 0 ≤ q by omega)
    simp only [bits_Set_Nth.j0]
    by_cases h2 : n < (listOf s).length
    · rw [if_neg (by simp; omega), nth_l0 n s k hs h2 (by omega), Int.toNat_natCast]
    · rw [if_pos (by simp; omega), Int.toNat_natCast, List.drop_of_length_le (by omega)]
      rfl
/-- High: the greatest one. -/
theorem high_l0 (s : Nat) : ∀ (d k : Nat) (i : Nat), s / 2 ^ (i + d) = 0 → (d = 0 ∨ s / 2 ^ (i + d - 1) ≠ 0) → i + d ≤ 64 → d < k → bits_Set_High.l0 k ((s / 2 ^ i : Nat) : Int) ((i : Int) - 1) = some (((i + d : Nat) : Int) - 1, true) := by
  intro d
  induction d with
  | zero =>
    intro k i h0 h1 hi hk
    obtain ⟨k, rfl⟩ : ∃ m, k = m + 1 := ⟨k - 1, by omega⟩
    unfold bits_Set_High.l0
    rw [Nat.add_zero] at h0 ⊢
    rw [h0, if_pos (show ((0 : Nat) : Int) = 0 from rfl)]
  | succ d ih =>
    intro k i h0 h1 hi hk
    obtain ⟨k, rfl⟩ : ∃ m, k = m + 1 := ⟨k - 1, by omega⟩
    have hne : s / 2 ^ i ≠ 0 := by
      rcases h1 with h1 | h1
      · omega
      · intro h
        apply h1
        rw [show i + (d + 1) - 1 = i + d by omega, Nat.pow_add, ← Nat.div_div_eq_div_mul, h, Nat.zero_div]
    unfold bits_Set_High.l0
    rw [if_neg (fun h => hne (by exact_mod_cast h)), half_nat, Nat.div_div_eq_div_mul, ← Nat.pow_succ, show wrap64 ((i : Int) - 1 + 1) = ((i + 1 : Nat) : Int) - 1 by unfold wrap64; omega]
    rw [ih k (i + 1) (by rw [show i + 1 + d = i + (d + 1) by omega]; exact h0) (by
      rcases h1 with h1 | h1
      · omega
      · by_cases hd : d = 0
        · exact .inl hd
        · right
          rw [show i + 1 + d - 1 = i + (d + 1) - 1 by omega]
          exact h1) (by omega) (by omega)]
    congr 2
    omega
def lastOf (l : List Int) : Int × Bool := match l.getLast? with | none => (0, false) | some x => (x, true)
theorem listN_last (s : Nat) : ∀ n, s.testBit n = true → (∀ j, n < j → s.testBit j = false) → ∀ t, n < t → (listN s t).getLast? = some (n : Int) := by
  intro n h1 h2 t
  induction t with
  | zero => intro h; omega
  | succ t ih =>
    intro h
    rw [listN_succ]
    rcases Nat.lt_or_ge n t with h3 | h3
    · rw [if_neg (by simp [h2 t h3])]
      exact ih h3
    · obtain rfl : n = t := by omega
      rw [if_pos h1]
      simp
theorem high_f (s : Nat) (hs : s < 18446744073709551616) (k : Nat) (hk : 64 < k) : bits_Set_High.f k (s : Int) = some (lastOf (listOf s)) := by
  unfold bits_Set_High.f
  by_cases h : s = 0
  · subst h
    rw [if_pos (show ((0 : Nat) : Int) = 0 from rfl), listOf_zero]
    rfl
  · rw [if_neg (by omega)]
    have hlog := Nat.log2_lt h (k := 64)
    have hd : Nat.log2 s < 64 := hlog.2 hs
    have hlt : s < 2 ^ (Nat.log2 s + 1) := Nat.lt_log2_self
    have hge : 2 ^ Nat.log2 s ≤ s := Nat.log2_self_le h
    have e1 : s / 2 ^ (Nat.log2 s + 1) = 0 := Nat.div_eq_of_lt hlt
    have e2 : s / 2 ^ Nat.log2 s = 1 := by
      apply Nat.div_eq_of_lt_le
      · omega
      · rw [Nat.pow_succ] at hlt
        omega
    have := high_l0 s (Nat.log2 s + 1) k 0 (by rw [Nat.zero_add]; exact e1) (.inr (by rw [Nat.zero_add, Nat.add_sub_cancel, e2]; omega)) (by omega) (by omega)
    rw [Nat.pow_zero, Nat.div_one] at this
    have e3 : ((0 : Nat) : Int) - 1 = -1 := rfl
    rw [e3] at this
    rw [this]
    unfold lastOf listOf
    rw [listN_last s (Nat.log2 s) (by rw [testBit_eq_mod, e2]; rfl) (fun j hj => Nat.testBit_lt_two_pow (Nat.lt_of_lt_of_le hlt (Nat.pow_le_pow_right (by omega) (by omega)))) 64 hd]
    congr 2
    omega
end Go.Proofs.Ytemhalnhbgkbcaa.V
