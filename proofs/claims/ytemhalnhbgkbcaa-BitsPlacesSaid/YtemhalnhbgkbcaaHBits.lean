/- The printed functions of bits and of its reference, as plain functions of numbers: contracts without rounds. -/
import Derived.Test.YtemhalnhbgkbcaaVFBitsSetHas
import Derived.Test.YtemhalnhbgkbcaaVFBitsSetWith
import Derived.Test.YtemhalnhbgkbcaaVFBitsSetWithout
import Derived.Test.YtemhalnhbgkbcaaVFBitsOf
import Derived.Test.YtemhalnhbgkbcaaVFBitsSetLen
import Derived.Test.YtemhalnhbgkbcaaVFBitsSetList
import Derived.Test.YtemhalnhbgkbcaaVFVirgateref14List
import Derived.Test.YtemhalnhbgkbcaaHBase
namespace Go.Proofs.Ytemhalnhbgkbcaa.V
open Go.RowKit Go.Proofs.YtemhalnhbgkbcaaW.PrintWords Go.Proofs.YtemhalnhbgkbcaaW.PrintLast Go.Proofs.YtemhalnhbgkbcaaW.PrintMore

def slotB (i : Int) : Bool := decide (0 ≤ i) && decide (i < 64)
def hasB (s : Nat) (i : Int) : Bool := slotB i && s.testBit i.toNat
theorem slot_f (i : Int) : bits_slot.f i = some (slotB i) := by
  unfold bits_slot.f slotB
  by_cases h : 0 ≤ i
  · rw [if_pos h]; simp [h]
  · rw [if_neg (by omega)]; simp [h]
theorem slotB_true {i : Int} (h : slotB i = true) : 0 ≤ i ∧ i < 64 := by simpa [slotB] using h
theorem slotB_of (i : Nat) (h : i < 64) : slotB (i : Int) = true := by simp [slotB]; omega
theorem and_one (a : Nat) (ha : a < 18446744073709551616) : Go.bits .and .u64 (a : Int) 1 = ((a % 2 : Nat) : Int) := by
  have := u64_and_nat a 1 ha (by decide)
  rw [nat_mask1] at this
  exact this
theorem testBit_eq_mod (a i : Nat) : a.testBit i = decide (a / 2 ^ i % 2 = 1) := by
  rw [Nat.testBit_eq_decide_div_mod_eq]
theorem one_test (q : Nat) : (((q % 2 : Nat) : Int) == 1) = decide (q % 2 = 1) := by
  rw [Bool.eq_iff_iff]
  simp
  omega
theorem half_nat (q : Nat) : (q : Int) / 2 = ((q / 2 : Nat) : Int) := by omega
theorem mod_nat (q : Nat) : (q : Int) % 2 = ((q % 2 : Nat) : Int) := by omega
theorem has_f (s : Nat) (hs : s < 18446744073709551616) (i : Int) : bits_Set_Has.f (s : Int) i = some (hasB s i) := by
  unfold bits_Set_Has.f hasB
  rw [slot_f, Option.bind_some]
  by_cases h : slotB i = true
  · obtain ⟨h0, h1⟩ := slotB_true h
    obtain ⟨n, rfl⟩ := Int.eq_ofNat_of_zero_le h0
    rw [if_pos h, if_pos h0, h]
    have e : shr .u64 (s : Int) (n : Int) = ((s / 2 ^ n : Nat) : Int) := by
      unfold shr
      rw [Nat.min_eq_left (by show (n : Int).toNat ≤ 64; omega)]
      simp
    rw [e, and_one _ (Nat.lt_of_le_of_lt (Nat.div_le_self _ _) hs), Bool.true_and, Int.toNat_natCast, testBit_eq_mod]
    rw [one_test]
  · have h' : slotB i = false := by simpa using h
    rw [if_neg h, h']
    rfl
theorem has_any (s : Nat) (hs : s < 18446744073709551616) (i : Int) (w : World) : Calls Try.prog 20 #[.int .u64 (s : Int), .int .i64 i] w fun e w' => e = .returned (.bool (hasB s i)) ∧ Drawn0 w w' :=
  bits_Set_Has.calls _ _ _ w (has_f s hs i)

def withN (s : Nat) (i : Int) : Nat := if slotB i then s ||| 2 ^ i.toNat else s
theorem shl_one (n : Nat) (h : n < 64) : shl .u64 1 (n : Int) = ((2 ^ n : Nat) : Int) := by
  unfold shl
  rw [Nat.min_eq_left (by show (n : Int).toNat ≤ 64; omega), Int.one_mul, Int.toNat_natCast]
  have := wrap_u64_nat (2 ^ n) (two_pow_lt64 n h)
  simpa using this
theorem with_f (s : Nat) (hs : s < 18446744073709551616) (i : Int) : bits_Set_With.f (s : Int) i = some ((withN s i : Nat) : Int) := by
  unfold bits_Set_With.f withN
  rw [slot_f, Option.bind_some]
  by_cases h : slotB i = true
  · obtain ⟨h0, h1⟩ := slotB_true h
    obtain ⟨n, rfl⟩ := Int.eq_ofNat_of_zero_le h0
    rw [if_pos h, if_pos h]
    unfold bits_one.f
    rw [if_pos h0, Option.bind_some, shl_one n (by omega), u64_or_nat _ _ hs (two_pow_lt64 n (by omega)), Int.toNat_natCast]
  · rw [if_neg h, if_neg h]
theorem withN_lt (s : Nat) (hs : s < 18446744073709551616) (i : Int) : withN s i < 18446744073709551616 := by
  unfold withN
  split
  · rename_i h
    obtain ⟨h0, h1⟩ := slotB_true h
    exact Nat.or_lt_two_pow (n := 64) hs (two_pow_lt64 _ (by omega))
  · exact hs
theorem with_any (s : Nat) (hs : s < 18446744073709551616) (i : Int) (w : World) : Calls Try.prog 21 #[.int .u64 (s : Int), .int .i64 i] w fun e w' => e = .returned (.int .u64 ((withN s i : Nat) : Int)) ∧ Drawn0 w w' :=
  bits_Set_With.calls _ _ _ w (with_f s hs i)
theorem withN_testBit (s : Nat) (i : Int) (j : Nat) (hj : j < 64) : (withN s i).testBit j = (s.testBit j || decide (i = (j : Int))) := by
  unfold withN
  by_cases h : slotB i = true
  · obtain ⟨h0, h1⟩ := slotB_true h
    rw [if_pos h, Nat.testBit_or, Nat.testBit_two_pow]
    congr 1
    rw [decide_eq_decide]
    omega
  · rw [if_neg h]
    have : ¬ i = (j : Int) := by
      rintro rfl
      exact h (slotB_of j hj)
    simp [this]

def withoutN (s : Nat) (i : Int) : Nat := if slotB i then s &&& (18446744073709551615 - 2 ^ i.toNat) else s
theorem without_f (s : Nat) (hs : s < 18446744073709551616) (i : Int) : bits_Set_Without.f (s : Int) i = some ((withoutN s i : Nat) : Int) := by
  unfold bits_Set_Without.f withoutN
  rw [slot_f, Option.bind_some]
  by_cases h : slotB i = true
  · obtain ⟨h0, h1⟩ := slotB_true h
    obtain ⟨n, rfl⟩ := Int.eq_ofNat_of_zero_le h0
    rw [if_pos h, if_pos h]
    unfold bits_one.f
    rw [if_pos h0, Option.bind_some, shl_one n (by omega), u64_andNot_nat _ _ hs (two_pow_lt64 n (by omega)), Int.toNat_natCast]
  · rw [if_neg h, if_neg h]
theorem withoutN_lt (s : Nat) (hs : s < 18446744073709551616) (i : Int) : withoutN s i < 18446744073709551616 := by
  unfold withoutN
  split
  · exact Nat.lt_of_le_of_lt Nat.and_le_left hs
  · exact hs
theorem withoutN_testBit (s : Nat) (i : Int) (j : Nat) (hj : j < 64) : (withoutN s i).testBit j = (s.testBit j && !decide (i = (j : Int))) := by
  unfold withoutN
  by_cases h : slotB i = true
  · obtain ⟨h0, h1⟩ := slotB_true h
    obtain ⟨n, rfl⟩ := Int.eq_ofNat_of_zero_le h0
    rw [if_pos h, Nat.testBit_and, Int.toNat_natCast]
    have e : (18446744073709551615 : Nat) - 2 ^ n = 2 ^ 64 - (2 ^ n + 1) := by omega
    rw [e, Nat.testBit_two_pow_sub_succ (by have := two_pow_lt64 n (by omega); omega), Nat.testBit_two_pow]
    simp only [hj, decide_true, Bool.true_and]
    congr 2
    rw [decide_eq_decide]
    omega
  · rw [if_neg h]
    have : ¬ i = (j : Int) := by
      rintro rfl
      exact h (slotB_of j hj)
    simp [this]
theorem without_any (s : Nat) (hs : s < 18446744073709551616) (i : Int) (w : World) : Calls Try.prog 23 #[.int .u64 (s : Int), .int .i64 i] w fun e w' => e = .returned (.int .u64 ((withoutN s i : Nat) : Int)) ∧ Drawn0 w w' :=
  bits_Set_Without.calls _ _ _ w (without_f s hs i)

/-- The numbers of a set, rising, below n. -/
def listN (s : Nat) (n : Nat) : List Int := ((List.range n).filter s.testBit).map (fun i : Nat => (i : Int))
def listOf (s : Nat) : List Int := listN s 64
theorem listN_succ (s n : Nat) : listN s (n + 1) = if s.testBit n then listN s n ++ [(n : Int)] else listN s n := by
  unfold listN
  rw [List.range_succ, List.filter_append, List.map_append]
  by_cases h : s.testBit n = true
  · simp [h]
  · simp [h]
theorem listN_length (s n : Nat) : (listN s n).length ≤ n := by
  unfold listN
  rw [List.length_map]
  exact Nat.le_trans (List.length_filter_le _ _) (by simp)
theorem mem_listN (s n i : Nat) : (i : Int) ∈ listN s n ↔ i < n ∧ s.testBit i = true := by
  unfold listN
  simp only [List.mem_map, List.mem_filter, List.mem_range]
  constructor
  · rintro ⟨j, ⟨h1, h2⟩, h3⟩
    have : j = i := by omega
    subst this
    exact ⟨h1, h2⟩
  · rintro ⟨h1, h2⟩
    exact ⟨i, ⟨h1, h2⟩, rfl⟩
theorem mem_listN_nat (s n : Nat) (x : Int) (h : x ∈ listN s n) : ∃ i : Nat, x = (i : Int) ∧ i < n ∧ s.testBit i = true := by
  unfold listN at h
  simp only [List.mem_map, List.mem_filter, List.mem_range] at h
  obtain ⟨j, ⟨h1, h2⟩, h3⟩ := h
  exact ⟨j, h3.symm, h1, h2⟩

theorem r14_List_l0 (s : Nat) (hs : s < 18446744073709551616) : ∀ (d k i : Nat), i + d = 64 → d < k → virgateref14_List.l0 k ((s / 2 ^ i : Nat) : Int) (listN s i) (i : Int) = some (listOf s) := by
  intro d
  induction d with
  | zero =>
    intro k i hi hk
    obtain ⟨k, rfl⟩ : ∃ m, k = m + 1 := ⟨k - 1, by omega⟩
    obtain rfl : i = 64 := by omega
    simp only [virgateref14_List.l0]
    rw [if_neg (by omega)]
    rfl
  | succ d ih =>
    intro k i hi hk
    obtain ⟨k, rfl⟩ : ∃ m, k = m + 1 := ⟨k - 1, by omega⟩
    simp only [virgateref14_List.l0]
    have hi0 : (i : Int) < 64 := by omega
    rw [if_pos hi0]
    have hlen := listN_length s i
    have hlt : s / 2 ^ i < 18446744073709551616 := Nat.lt_of_le_of_lt (Nat.div_le_self _ _) hs
    have e1 : IntKind.u64.wrap (Int.tdiv ((s / 2 ^ i : Nat) : Int) 2) = ((s / 2 ^ (i + 1) : Nat) : Int) := by
      rw [Int.tdiv_eq_ediv_of_nonneg (Int.natCast_nonneg _), half_nat, Nat.div_div_eq_div_mul, ← Nat.pow_succ]
      exact wrap_u64_nat _ (Nat.lt_of_le_of_lt (Nat.div_le_self _ _) hs)
    have e2 : wrap64 ((i : Int) + 1) = ((i + 1 : Nat) : Int) := by unfold wrap64; omega
    have e3 : Int.tmod ((s / 2 ^ i : Nat) : Int) 2 = ((s / 2 ^ i % 2 : Nat) : Int) := by
      rw [Int.tmod_eq_emod_of_nonneg (Int.natCast_nonneg _), mod_nat]
    have hrec := ih k (i + 1) (by omega) (by omega)
    rw [e1, e2, e3]
    rw [listN_succ, testBit_eq_mod] at hrec
    by_cases hb : s / 2 ^ i % 2 = 1
    · rw [if_pos (by rw [hb]; rfl), if_pos (by omega)]
      rw [if_pos (by simpa using hb)] at hrec
      exact hrec
    · rw [if_neg (fun h => hb (by exact_mod_cast h))]
      rw [if_neg (by simpa using hb)] at hrec
      exact hrec
theorem r14_List_f (s : Nat) (hs : s < 18446744073709551616) : virgateref14_List.f 65 (s : Int) = some (listOf s) := by
  have := r14_List_l0 s hs 64 65 0 (by omega) (by omega)
  simpa [virgateref14_List.f, listN] using this
theorem r14_List_any (s : Nat) (hs : s < 18446744073709551616) (w : World) : Calls Try.prog 19 #[.int .u64 (s : Int)] w fun e w' => ∃ v0_ : Value, e = .returned v0_ ∧ Kd.R (Kd.int .i64) 3 w' w.heap.size (fun _ => True) v0_ (listOf s) ∧ Below w.heap.size w w' :=
  virgateref14_List.calls 65 _ _ w (r14_List_f s hs)

theorem list_l0 (s : Nat) (hs : s < 18446744073709551616) : ∀ (d k i : Nat), i + d = 64 → d < k → bits_Set_List.l0 k (s : Int) (listN s i) (i : Int) = some (listOf s) := by
  intro d
  induction d with
  | zero =>
    intro k i hi hk
    obtain ⟨k, rfl⟩ : ∃ m, k = m + 1 := ⟨k - 1, by omega⟩
    obtain rfl : i = 64 := by omega
    simp only [bits_Set_List.l0]
    rw [if_neg (by omega)]
    rfl
  | succ d ih =>
    intro k i hi hk
    obtain ⟨k, rfl⟩ : ∃ m, k = m + 1 := ⟨k - 1, by omega⟩
    simp only [bits_Set_List.l0]
    have hlen := listN_length s i
    rw [if_pos (by omega), has_f s hs, Option.bind_some]
    have e2 : wrap64 ((i : Int) + 1) = ((i + 1 : Nat) : Int) := by unfold wrap64; omega
    have hrec := ih k (i + 1) (by omega) (by omega)
    rw [e2]
    rw [listN_succ] at hrec
    have hh : hasB s (i : Int) = s.testBit i := by simp [hasB, slotB_of i (by omega)]
    rw [hh]
    by_cases hb : s.testBit i = true
    · rw [if_pos hb, if_pos (by omega)]
      rw [if_pos hb] at hrec
      exact hrec
    · rw [if_neg hb]
      rw [if_neg hb] at hrec
      exact hrec
theorem list_f (s : Nat) (hs : s < 18446744073709551616) : bits_Set_List.f 65 (s : Int) = some (listOf s) := by
  have := list_l0 s hs 64 65 0 (by omega) (by omega)
  simpa [bits_Set_List.f, listN] using this
theorem list_any (s : Nat) (hs : s < 18446744073709551616) (w : World) : Calls Try.prog 26 #[.int .u64 (s : Int)] w fun e w' => ∃ v0_ : Value, e = .returned v0_ ∧ Kd.R (Kd.int .i64) 3 w' w.heap.size (fun _ => True) v0_ (listOf s) ∧ Below w.heap.size w w' :=
  bits_Set_List.calls 65 _ _ w (list_f s hs)

/-- Of: one by one. -/
def ofN (l : List Int) : Nat := l.foldl withN 0
theorem foldl_withN_lt (l : List Int) : ∀ s, s < 18446744073709551616 → l.foldl withN s < 18446744073709551616 := by
  induction l with
  | nil => exact fun s h => h
  | cons x l ih => exact fun s h => ih _ (withN_lt s h x)
theorem ofN_lt (l : List Int) : ofN l < 18446744073709551616 := foldl_withN_lt l 0 (by decide)
theorem foldl_withN_testBit (l : List Int) (j : Nat) (hj : j < 64) : ∀ s, (l.foldl withN s).testBit j = (s.testBit j || decide ((j : Int) ∈ l)) := by
  induction l with
  | nil => simp
  | cons x l ih =>
    intro s
    rw [List.foldl_cons, ih, withN_testBit s x j hj, Bool.or_assoc]
    congr 1
    rw [Bool.eq_iff_iff]
    simp only [Bool.or_eq_true, decide_eq_true_eq, List.mem_cons]
    exact or_congr eq_comm Iff.rfl
theorem ofN_testBit (l : List Int) (j : Nat) (hj : j < 64) : (ofN l).testBit j = decide ((j : Int) ∈ l) := by
  unfold ofN; rw [foldl_withN_testBit l j hj]; simp
theorem of_l0 (l : List Int) (hm : l.length ≤ 9223372036854775807) : ∀ (d k i s : Nat), i + d = l.length → d < k → s < 18446744073709551616 → bits_Of.l0 k (s : Int) l (l.length : Int) (i : Int) = some (((l.drop i).foldl withN s : Nat) : Int) := by
  intro d
  induction d with
  | zero =>
    intro k i s hi hk hs
    obtain ⟨k, rfl⟩ : ∃ m, k = m + 1 := ⟨k - 1, by omega⟩
    unfold bits_Of.l0
    rw [if_neg (by omega), List.drop_of_length_le (by omega), List.foldl_nil]
  | succ d ih =>
    intro k i s hi hk hs
    obtain ⟨k, rfl⟩ : ∃ m, k = m + 1 := ⟨k - 1, by omega⟩
    unfold bits_Of.l0
    have hlt : i < l.length := by omega
    have e : rd l (i : Int) = l[i] := by simp [rd, List.getD_eq_getElem?_getD, hlt]
    rw [if_pos (by omega), if_pos (by omega), if_pos (by omega), e, with_f s hs, Option.bind_some, show wrap64 ((i : Int) + 1) = ((i + 1 : Nat) : Int) by unfold wrap64; omega]
    rw [ih k (i + 1) _ (by omega) (by omega) (withN_lt s hs _), List.drop_eq_getElem_cons hlt, List.foldl_cons]
theorem of_any (l : List Int) (n : Nat) (hn : l.length = n) (A : Option Addr) (c : Nat) (hc : n ≤ c) (w : World) (hr : Kd.C (Kd.int .i64) w A n l) :
    Calls Try.prog 28 #[.slice A n c] w fun e w' => e = .returned (.int .u64 ((ofN l : Nat) : Int)) ∧ Drawn0 w w' := by
  subst hn
  refine bits_Of.calls (l.length + 1) A c l _ w hr hc ?_
  exact of_l0 l (Kd.C_max hr) l.length (l.length + 1) 0 0 (by omega) (by omega) (by decide)
end Go.Proofs.Ytemhalnhbgkbcaa.V
