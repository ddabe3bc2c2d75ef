/- The law BlockRight for every input: texts of ours, put together (part 5 of 12). No further condition. -/
import Derived.Test.YtemhalnhbgkbcaaCBlockRightx3
import Derived.Outline
import Derived.Test.YtemhalnhbgkbcaaCBlockRightx2
import Derived.WalkSpells
import Derived.Test.YtemhalnhbgkbcaaCBlockRightw1
-- BRight
section
/- block.Right: may a block be? -/
namespace Go.Proofs.Ytemhalnhbgkbcaa.V
open Go.RowKit Go.Proofs.YtemhalnhbgkbcaaW.PrintWords Go.Proofs.YtemhalnhbgkbcaaW.PrintLast Go.Proofs.YtemhalnhbgkbcaaW.PrintMore
set_option linter.unusedVariables false
set_option linter.unusedSimpArgs false

/-- A block's parts are of their kinds. -/
structure BkOk (b : Bk) : Prop where
  a0 : 0 ≤ b.addr
  a1 : b.addr < 4294967296
  s8 : U8s b.slots
  f8 : U8s b.free
def firstI (a : Int) : Int := a - a % 64
theorem and_mask (n : Nat) : n &&& 4294967232 = n % 4294967296 - n % 64 := by
  have h1 : n &&& 4294967232 = (n % 4294967296) &&& 4294967232 := by
    apply Nat.eq_of_testBit_eq
    intro i
    rw [Nat.testBit_and, Nat.testBit_and, show (4294967296 : Nat) = 2 ^ 32 from rfl, Nat.testBit_mod_two_pow]
    by_cases h : i < 32
    · simp [h]
    · have : (4294967232 : Nat).testBit i = false := Nat.testBit_lt_two_pow (Nat.lt_of_lt_of_le (show (4294967232 : Nat) < 2 ^ 32 by decide) (Nat.pow_le_pow_right (by omega) (by omega)))
      rw [this]
      simp
  have h2 : (n % 4294967296) &&& 4294967232 = (n % 4294967296) / 64 * 64 := by
    apply Nat.eq_of_testBit_eq
    intro i
    rw [Nat.testBit_and, show (64 : Nat) = 2 ^ 6 from rfl, Nat.testBit_mul_two_pow, Nat.testBit_div_two_pow]
    rw [show (4294967232 : Nat) = 67108863 * 2 ^ 6 from rfl, Nat.testBit_mul_two_pow, show (67108863 : Nat) = 2 ^ 26 - 1 from rfl, Nat.testBit_two_pow_sub_one]
    by_cases h6 : 6 ≤ i
    · by_cases h32 : i < 32
      · have e : 6 + (i - 6) = i := by omega
        simp [h6, show i - 6 < 26 by omega, e]
      · have : (n % 4294967296).testBit i = false := Nat.testBit_lt_two_pow (Nat.lt_of_lt_of_le (Nat.mod_lt _ (by decide)) (Nat.pow_le_pow_right (n := 2) (by omega) (show 32 ≤ i by omega)))
        simp [this, h6, show ¬ (i - 6 < 26) by omega]
    · simp [h6]
  rw [h1, h2]
  omega
theorem first_f (a : Int) (h0 : 0 ≤ a) (h1 : a < 4294967296) : block_first.f a = some (firstI a) := by
  obtain ⟨n, rfl⟩ : ∃ n : Nat, a = (n : Int) := ⟨a.toNat, by omega⟩
  unfold block_first.f firstI
  rw [show cidr_Mask.f 26 = some ((4294967232 : Nat) : Int) from rfl, Option.bind_some]
  congr 1
  rw [u32_and_nat n 4294967232 (by omega) (by omega), and_mask]
  omega
def ownerB (s : ByteArray) : Bool := decide (s.toList = []) || rightName s
theorem owner_f (s : ByteArray) : block_owner.f s = some (ownerB s) := by
  unfold block_owner.f names_Right.f ownerB
  by_cases h : s.toList = []
  · rw [if_pos h]; simp [h]
  · rw [if_neg h]; simp [h]
/-- May a block be? -/
def rightB (b : Bk) : Bool := (firstI b.addr == b.addr) && (ownerB b.aff && (decide (b.attrs.length ≤ 64) && (attrsOk b && freeOk b)))
def bright1.T1 : Bool × List (List Nat × List Nat) := (true, [([], []), ([0], [0]), ([1], [1]), ([], []), ([3], [3]), ([2, 4], [2, 4]), ([5, 2], [5]), ([6], [6]), ([7, 6], [6, 7]), ([8, 6, 6], [6, 8]), ([6, 9], [6, 9]), ([10, 9], [10]), ([11], [11]), ([12, 11], [11, 12]), ([13, 11], [11, 13]), ([14, 11], [11, 14]), ([11, 15], [11, 15]), ([16, 11], [16]), ([17], [17]), ([18, 17, 17], [17, 18]), ([17, 19], [17, 19]), ([20, 19], [20]), ([21], [21]), ([22, 21, 21], [21, 22]), ([21, 23], [21, 23]), ([24, 23, 0, 1, 2, 3, 4, 5, 6, 7, 8, 9, 10, 11, 12, 13, 14, 15, 16, 17, 18, 19, 20, 21, 22, 23, 24], [24])])
def bright1.B1 : List Nat := [0, 1, 3, 0, 8, 31, 63, 127, 255, 511, 1023, 2047, 4095, 8191, 16383, 32767, 65535, 131071, 262143, 524287, 1048575, 2097151, 4194303, 8388607, 16777215, 33554431]
theorem bright1.tab1 : rtab .any (opsOf Try.f48 1) = bright1.T1 := by kernel_rfl
theorem bright1.bits1 : waitsOk bright1.T1.2 bright1.B1 = true := by kernel_rfl
set_option maxHeartbeats 8000000 in
set_option maxRecDepth 100000 in
theorem right_any' (b : Bk) (hk : BkOk b) (v : Value) (w : World) (h : BkV w v b) :
    Calls Try.prog 48 #[v] w fun e w' => e = .returned (.bool (rightB b)) ∧ Below w.heap.size w w' := by
  obtain ⟨A, c, A', c', rfl, hr⟩ := h
  have HL := Aside0.mk hr.l64
  have HR := Aside0.mk hr
  have HS := Aside0.mk hk.s8
  have HF := Aside0.mk hk.f8
  have HF1 := Aside0.mk (first_f b.addr hk.a0 hk.a1)
  have HF2 := Aside0.mk (owner_f b.aff)
  have HLL := Aside0.mk (show (Try.prog.info? 57).map (·.size) = some (bkL b.addr b.aff b.slots (.slice A b.free.length c) (.slice A' b.attrs.length c')).length by rw [bkL_length _ _ _ _ _ hr.l64]; kernel_rfl)
  clear hr hk
  go_enter Try.func48, Try.ntmps48
  go_wp2_with (refine step_box rfl 57 (.tmp 0) rfl _ rfl ?_; intro g W1 hg hbx hb1; have HX := Aside0.mk (show Box W1.drew g _ _ from hbx); have HB := Aside0.mk (below_drew hb1); have HR1 := Aside0.mk ((HR.out.below hb1).below (below_drew (Below.refl W1.heap.size W1))); have HZ := Aside0.mk (Below.refl W1.drew.heap.size W1.drew); clear hbx hb1 hg HR)
  cases h1 : (firstI b.addr == b.addr) with
  | false =>
    have HV := Aside0.mk (show rightB b = false by unfold rightB; rw [h1]; rfl)
    refine start_ (n := 26) (S := fun w' => Box w' g (bkL b.addr b.aff b.slots (.slice A b.free.length c) (.slice A' b.attrs.length c')) 57) (ds := []) #[false, false, false, false, false, false, false, false, false, false, false, false, false, false, false, false, false, false, false, false, false, false, false, false, false, false] (by kernel_rfl) rfl rfl HX.out (fun hHeld => ?_); refine with_tabW bright1.tab1 bright1.bits1 (fun HT_ HW_ => ?_)
    refine pure_ (i := 0) (N := some 3) (v := ?_) (a' := ?_) #[true, false, false, false, false, false, false, false, false, false, false, false, false, false, false, false, false, false, false, false, false, false, false, false, false, false] rfl rfl (any_of HT_.out (by kernel_rfl)) (fun _ _ _ h => h) (Or.inl ⟨by rfl, ?_⟩) ?_ ?_
    rotate_left
    · intro w'
      go_simp
      with_reducible rfl
    rotate_left
    · simp only [Act.put, List.setIfInBounds_toArray, List.set_cons_zero, List.set_cons_succ, i64_w, i32_w]
      rfl
    refine take_ (i := 1) (N := some 4) (v := ?_) (a' := ?_) #[true, true, false, false, false, false, false, false, false, false, false, false, false, false, false, false, false, false, false, false, false, false, false, false, false, false] rfl rfl (take_ofW HT_.out HW_.out (by kernel_rfl)) (fun _ _ _ h => h) (Or.inl ⟨by rfl, ?_⟩) hHeld ?_ ?_
    rotate_left
    · intro w' hS_
      have s0 := hS_.cell 0 _ rfl
      go_simp
      with_reducible rfl
    rotate_left
    · simp only [Act.put, List.setIfInBounds_toArray, List.set_cons_zero, List.set_cons_succ, i64_w, i32_w]
      rfl
    refine pure_ (i := 3) (N := some 6) (v := ?_) (a' := ?_) #[true, true, false, true, false, false, false, false, false, false, false, false, false, false, false, false, false, false, false, false, false, false, false, false, false, false] rfl rfl (any_of HT_.out (by kernel_rfl)) (fun _ _ _ h => h) (Or.inl ⟨by rfl, ?_⟩) ?_ ?_
    rotate_left
    · intro w'
      go_simp
      with_reducible rfl
    rotate_left
    · simp only [Act.put, List.setIfInBounds_toArray, List.set_cons_zero, List.set_cons_succ, i64_w, i32_w]
      rfl
    refine take_ (i := 4) (N := some 7) (v := ?_) (a' := ?_) #[true, true, false, true, true, false, false, false, false, false, false, false, false, false, false, false, false, false, false, false, false, false, false, false, false, false] rfl rfl (take_ofW HT_.out HW_.out (by kernel_rfl)) (fun _ _ _ h => h) (Or.inl ⟨by rfl, ?_⟩) hHeld ?_ ?_
    rotate_left
    · intro w' hS_
      have s0 := hS_.cell 0 _ rfl
      go_simp
      with_reducible rfl
    rotate_left
    · simp only [Act.put, List.setIfInBounds_toArray, List.set_cons_zero, List.set_cons_succ, i64_w, i32_w]
      rfl
    refine one_ (i := 2) (N := some 5) #[true, true, true, true, true, false, false, false, false, false, false, false, false, false, false, false, false, false, false, false, false, false, false, false, false, false] rfl rfl (one_of HT_.out (by kernel_rfl)) (by decide) (fun K hK => ?_)
    refine goes_ Try.func80 (by kernel_rfl) rfl #[.int .u32 b.addr] (by rfl) rfl rfl (by (try simp only [List.map_toArray, List.map_cons, List.map_nil]); first | done | rfl) ?_
    refine (block_first.calls _ _ _ HF1.out).mono ?_
    rintro e V2 ⟨rfl, hb⟩
    refine ⟨_, rfl, ?_⟩
    have HXn := hHeld.below hb; have HZn := Aside0.mk (below_step HZ.out hb); clear HZ; have HZ := HZn; clear HZn hb
    refine hK.out _ _ HXn (fun hHeld => ?_)
    clear hK K
    refine norm_ (a' := ?_) ?_ ?_
    rotate_left
    · show Act.put _ (some 5) _ = _
      simp only [Act.put, List.setIfInBounds_toArray, List.set_cons_zero, List.set_cons_succ, i64_w, i32_w]
      rfl
    refine pure_ (i := 5) (N := some 8) (v := ?_) (a' := ?_) #[true, true, true, true, true, true, false, false, false, false, false, false, false, false, false, false, false, false, false, false, false, false, false, false, false, false] rfl rfl (any_of HT_.out (by kernel_rfl)) (fun _ _ _ h => h) (Or.inl ⟨by rfl, ?_⟩) ?_ ?_
    rotate_left
    · intro w'
      go_simp
      with_reducible rfl
    rotate_left
    · simp only [Act.put, List.setIfInBounds_toArray, List.set_cons_zero, List.set_cons_succ, i64_w, i32_w]
      rfl
    refine pure_ (i := 6) (N := some 9) (v := ?_) (a' := ?_) #[true, true, true, true, true, true, true, false, false, false, false, false, false, false, false, false, false, false, false, false, false, false, false, false, false, false] rfl rfl (any_of HT_.out (by kernel_rfl)) (fun _ _ _ h => h) (Or.inl ⟨by rfl, ?_⟩) ?_ ?_
    rotate_left
    · intro w'
      go_simp
      with_reducible rfl
    rotate_left
    · simp only [Act.put, List.setIfInBounds_toArray, List.set_cons_zero, List.set_cons_succ, i64_w, i32_w]
      rfl
    refine pure_ (i := 7) (N := some 10) (v := undef) (a' := ?_) #[true, true, true, true, true, true, true, true, false, false, false, false, false, false, false, false, false, false, false, false, false, false, false, false, false, false] rfl rfl (any_of HT_.out (by kernel_rfl)) (fun _ _ _ h => h) (Or.inr ⟨by rfl, rfl⟩) ?_ ?_
    rotate_left
    · simp only [Act.put, List.setIfInBounds_toArray, List.set_cons_zero, List.set_cons_succ, i64_w, i32_w]
      rfl
    refine pure_ (i := 8) (N := some 11) (v := undef) (a' := ?_) #[true, true, true, true, true, true, true, true, true, false, false, false, false, false, false, false, false, false, false, false, false, false, false, false, false, false] rfl rfl (any_of HT_.out (by kernel_rfl)) (fun _ _ _ h => h) (Or.inr ⟨by rfl, rfl⟩) ?_ ?_
    rotate_left
    · simp only [Act.put, List.setIfInBounds_toArray, List.set_cons_zero, List.set_cons_succ, i64_w, i32_w]
      rfl
    refine pure_ (i := 9) (N := some 12) (v := undef) (a' := ?_) #[true, true, true, true, true, true, true, true, true, true, false, false, false, false, false, false, false, false, false, false, false, false, false, false, false, false] rfl rfl (any_of HT_.out (by kernel_rfl)) (fun _ _ _ h => h) (Or.inr ⟨by rfl, rfl⟩) ?_ ?_
    rotate_left
    · simp only [Act.put, List.setIfInBounds_toArray, List.set_cons_zero, List.set_cons_succ, i64_w, i32_w]
      rfl
    refine pure_ (i := 10) (N := some 13) (v := ?_) (a' := ?_) #[true, true, true, true, true, true, true, true, true, true, true, false, false, false, false, false, false, false, false, false, false, false, false, false, false, false] rfl rfl (any_of HT_.out (by kernel_rfl)) (fun _ _ _ h => h) (Or.inl ⟨by rfl, ?_⟩) ?_ ?_
    rotate_left
    · intro w'
      go_simp
      with_reducible rfl
    rotate_left
    · simp only [Act.put, List.setIfInBounds_toArray, List.set_cons_zero, List.set_cons_succ, i64_w, i32_w]
      rfl
    refine pure_ (i := 11) (N := some 14) (v := ?_) (a' := ?_) #[true, true, true, true, true, true, true, true, true, true, true, true, false, false, false, false, false, false, false, false, false, false, false, false, false, false] rfl rfl (any_of HT_.out (by kernel_rfl)) (fun _ _ _ h => h) (Or.inl ⟨by rfl, ?_⟩) ?_ ?_
    rotate_left
    · intro w'
      go_simp
      with_reducible rfl
    rotate_left
    · simp only [Act.put, List.setIfInBounds_toArray, List.set_cons_zero, List.set_cons_succ, i64_w, i32_w]
      rfl
    refine pure_ (i := 12) (N := some 15) (v := undef) (a' := ?_) #[true, true, true, true, true, true, true, true, true, true, true, true, true, false, false, false, false, false, false, false, false, false, false, false, false, false] rfl rfl (any_of HT_.out (by kernel_rfl)) (fun _ _ _ h => h) (Or.inr ⟨by rfl, rfl⟩) ?_ ?_
    rotate_left
    · simp only [Act.put, List.setIfInBounds_toArray, List.set_cons_zero, List.set_cons_succ, i64_w, i32_w]
      rfl
    refine pure_ (i := 13) (N := some 16) (v := undef) (a' := ?_) #[true, true, true, true, true, true, true, true, true, true, true, true, true, true, false, false, false, false, false, false, false, false, false, false, false, false] rfl rfl (any_of HT_.out (by kernel_rfl)) (fun _ _ _ h => h) (Or.inr ⟨by rfl, rfl⟩) ?_ ?_
    rotate_left
    · simp only [Act.put, List.setIfInBounds_toArray, List.set_cons_zero, List.set_cons_succ, i64_w, i32_w]
      rfl
    refine pure_ (i := 14) (N := some 17) (v := undef) (a' := ?_) #[true, true, true, true, true, true, true, true, true, true, true, true, true, true, true, false, false, false, false, false, false, false, false, false, false, false] rfl rfl (any_of HT_.out (by kernel_rfl)) (fun _ _ _ h => h) (Or.inr ⟨by rfl, rfl⟩) ?_ ?_
    rotate_left
    · simp only [Act.put, List.setIfInBounds_toArray, List.set_cons_zero, List.set_cons_succ, i64_w, i32_w]
      rfl
    refine pure_ (i := 15) (N := some 18) (v := undef) (a' := ?_) #[true, true, true, true, true, true, true, true, true, true, true, true, true, true, true, true, false, false, false, false, false, false, false, false, false, false] rfl rfl (any_of HT_.out (by kernel_rfl)) (fun _ _ _ h => h) (Or.inr ⟨by rfl, rfl⟩) ?_ ?_
    rotate_left
    · simp only [Act.put, List.setIfInBounds_toArray, List.set_cons_zero, List.set_cons_succ, i64_w, i32_w]
      rfl
    refine pure_ (i := 16) (N := some 19) (v := ?_) (a' := ?_) #[true, true, true, true, true, true, true, true, true, true, true, true, true, true, true, true, true, false, false, false, false, false, false, false, false, false] rfl rfl (any_of HT_.out (by kernel_rfl)) (fun _ _ _ h => h) (Or.inl ⟨by rfl, ?_⟩) ?_ ?_
    rotate_left
    · intro w'
      go_simp
      with_reducible rfl
    rotate_left
    · simp only [Act.put, List.setIfInBounds_toArray, List.set_cons_zero, List.set_cons_succ, i64_w, i32_w]
      rfl
    refine pure_ (i := 17) (N := some 20) (v := ?_) (a' := ?_) #[true, true, true, true, true, true, true, true, true, true, true, true, true, true, true, true, true, true, false, false, false, false, false, false, false, false] rfl rfl (any_of HT_.out (by kernel_rfl)) (fun _ _ _ h => h) (Or.inl ⟨by rfl, ?_⟩) ?_ ?_
    rotate_left
    · intro w'
      go_simp
      with_reducible rfl
    rotate_left
    · simp only [Act.put, List.setIfInBounds_toArray, List.set_cons_zero, List.set_cons_succ, i64_w, i32_w]
      rfl
    refine pure_ (i := 18) (N := some 21) (v := undef) (a' := ?_) #[true, true, true, true, true, true, true, true, true, true, true, true, true, true, true, true, true, true, true, false, false, false, false, false, false, false] rfl rfl (any_of HT_.out (by kernel_rfl)) (fun _ _ _ h => h) (Or.inr ⟨by rfl, rfl⟩) ?_ ?_
    rotate_left
    · simp only [Act.put, List.setIfInBounds_toArray, List.set_cons_zero, List.set_cons_succ, i64_w, i32_w]
      rfl
    refine pure_ (i := 19) (N := some 22) (v := undef) (a' := ?_) #[true, true, true, true, true, true, true, true, true, true, true, true, true, true, true, true, true, true, true, true, false, false, false, false, false, false] rfl rfl (any_of HT_.out (by kernel_rfl)) (fun _ _ _ h => h) (Or.inr ⟨by rfl, rfl⟩) ?_ ?_
    rotate_left
    · simp only [Act.put, List.setIfInBounds_toArray, List.set_cons_zero, List.set_cons_succ, i64_w, i32_w]
      rfl
    refine pure_ (i := 20) (N := some 23) (v := ?_) (a' := ?_) #[true, true, true, true, true, true, true, true, true, true, true, true, true, true, true, true, true, true, true, true, true, false, false, false, false, false] rfl rfl (any_of HT_.out (by kernel_rfl)) (fun _ _ _ h => h) (Or.inl ⟨by rfl, ?_⟩) ?_ ?_
    rotate_left
    · intro w'
      go_simp
      with_reducible rfl
    rotate_left
    · simp only [Act.put, List.setIfInBounds_toArray, List.set_cons_zero, List.set_cons_succ, i64_w, i32_w]
      rfl
    refine pure_ (i := 21) (N := some 24) (v := ?_) (a' := ?_) #[true, true, true, true, true, true, true, true, true, true, true, true, true, true, true, true, true, true, true, true, true, true, false, false, false, false] rfl rfl (any_of HT_.out (by kernel_rfl)) (fun _ _ _ h => h) (Or.inl ⟨by rfl, ?_⟩) ?_ ?_
    rotate_left
    · intro w'
      go_simp
      with_reducible rfl
    rotate_left
    · simp only [Act.put, List.setIfInBounds_toArray, List.set_cons_zero, List.set_cons_succ, i64_w, i32_w]
      rfl
    refine pure_ (i := 22) (N := some 25) (v := undef) (a' := ?_) #[true, true, true, true, true, true, true, true, true, true, true, true, true, true, true, true, true, true, true, true, true, true, true, false, false, false] rfl rfl (any_of HT_.out (by kernel_rfl)) (fun _ _ _ h => h) (Or.inr ⟨by rfl, rfl⟩) ?_ ?_
    rotate_left
    · simp only [Act.put, List.setIfInBounds_toArray, List.set_cons_zero, List.set_cons_succ, i64_w, i32_w]
      rfl
    refine pure_ (i := 23) (N := some 26) (v := undef) (a' := ?_) #[true, true, true, true, true, true, true, true, true, true, true, true, true, true, true, true, true, true, true, true, true, true, true, true, false, false] rfl rfl (any_of HT_.out (by kernel_rfl)) (fun _ _ _ h => h) (Or.inr ⟨by rfl, rfl⟩) ?_ ?_
    rotate_left
    · simp only [Act.put, List.setIfInBounds_toArray, List.set_cons_zero, List.set_cons_succ, i64_w, i32_w]
      rfl
    refine pure_ (i := 24) (N := some 27) (v := ?_) (a' := ?_) #[true, true, true, true, true, true, true, true, true, true, true, true, true, true, true, true, true, true, true, true, true, true, true, true, true, false] rfl rfl (any_of HT_.out (by kernel_rfl)) (fun _ _ _ h => h) (Or.inl ⟨by rfl, ?_⟩) ?_ ?_
    rotate_left
    · intro w'
      go_simp
      with_reducible rfl
    rotate_left
    · simp only [Act.put, List.setIfInBounds_toArray, List.set_cons_zero, List.set_cons_succ, i64_w, i32_w]
      rfl
    refine pure_ (i := 25) (N := some 2) (v := ?_) (a' := ?_) #[true, true, true, true, true, true, true, true, true, true, true, true, true, true, true, true, true, true, true, true, true, true, true, true, true, true] rfl rfl (any_of HT_.out (by kernel_rfl)) (fun _ _ _ h => h) (Or.inl ⟨by rfl, ?_⟩) ?_ ?_
    rotate_left
    · intro w'
      go_simp
      with_reducible rfl
    rotate_left
    · simp only [Act.put, List.setIfInBounds_toArray, List.set_cons_zero, List.set_cons_succ, i64_w, i32_w]
      rfl
    refine done_ (done_of HT_.out (by kernel_rfl)) ?_
    try go_wp2
    go_ret
    refine ⟨?_, HB.out.trans (HZ.out.mono HB.out.size)⟩
    rw [HV.out]; rfl
  | true =>
    cases h2 : ownerB b.aff with
    | false =>
      have HV := Aside0.mk (show rightB b = false by unfold rightB; rw [h1, h2]; rfl)
      rw [h2] at HF2
      refine start_ (n := 26) (S := fun w' => Box w' g (bkL b.addr b.aff b.slots (.slice A b.free.length c) (.slice A' b.attrs.length c')) 57) (ds := []) #[false, false, false, false, false, false, false, false, false, false, false, false, false, false, false, false, false, false, false, false, false, false, false, false, false, false] (by kernel_rfl) rfl rfl HX.out (fun hHeld => ?_); refine with_tabW bright1.tab1 bright1.bits1 (fun HT_ HW_ => ?_)
      refine pure_ (i := 0) (N := some 3) (v := ?_) (a' := ?_) #[true, false, false, false, false, false, false, false, false, false, false, false, false, false, false, false, false, false, false, false, false, false, false, false, false, false] rfl rfl (any_of HT_.out (by kernel_rfl)) (fun _ _ _ h => h) (Or.inl ⟨by rfl, ?_⟩) ?_ ?_
      rotate_left
      · intro w'
        go_simp
        with_reducible rfl
      rotate_left
      · simp only [Act.put, List.setIfInBounds_toArray, List.set_cons_zero, List.set_cons_succ, i64_w, i32_w]
        rfl
      refine take_ (i := 1) (N := some 4) (v := ?_) (a' := ?_) #[true, true, false, false, false, false, false, false, false, false, false, false, false, false, false, false, false, false, false, false, false, false, false, false, false, false] rfl rfl (take_ofW HT_.out HW_.out (by kernel_rfl)) (fun _ _ _ h => h) (Or.inl ⟨by rfl, ?_⟩) hHeld ?_ ?_
      rotate_left
      · intro w' hS_
        have s0 := hS_.cell 0 _ rfl
        go_simp
        with_reducible rfl
      rotate_left
      · simp only [Act.put, List.setIfInBounds_toArray, List.set_cons_zero, List.set_cons_succ, i64_w, i32_w]
        rfl
      refine pure_ (i := 3) (N := some 6) (v := ?_) (a' := ?_) #[true, true, false, true, false, false, false, false, false, false, false, false, false, false, false, false, false, false, false, false, false, false, false, false, false, false] rfl rfl (any_of HT_.out (by kernel_rfl)) (fun _ _ _ h => h) (Or.inl ⟨by rfl, ?_⟩) ?_ ?_
      rotate_left
      · intro w'
        go_simp
        with_reducible rfl
      rotate_left
      · simp only [Act.put, List.setIfInBounds_toArray, List.set_cons_zero, List.set_cons_succ, i64_w, i32_w]
        rfl
      refine take_ (i := 4) (N := some 7) (v := ?_) (a' := ?_) #[true, true, false, true, true, false, false, false, false, false, false, false, false, false, false, false, false, false, false, false, false, false, false, false, false, false] rfl rfl (take_ofW HT_.out HW_.out (by kernel_rfl)) (fun _ _ _ h => h) (Or.inl ⟨by rfl, ?_⟩) hHeld ?_ ?_
      rotate_left
      · intro w' hS_
        have s0 := hS_.cell 0 _ rfl
        go_simp
        with_reducible rfl
      rotate_left
      · simp only [Act.put, List.setIfInBounds_toArray, List.set_cons_zero, List.set_cons_succ, i64_w, i32_w]
        rfl
      refine one_ (i := 2) (N := some 5) #[true, true, true, true, true, false, false, false, false, false, false, false, false, false, false, false, false, false, false, false, false, false, false, false, false, false] rfl rfl (one_of HT_.out (by kernel_rfl)) (by decide) (fun K hK => ?_)
      refine goes_ Try.func80 (by kernel_rfl) rfl #[.int .u32 b.addr] (by rfl) rfl rfl (by (try simp only [List.map_toArray, List.map_cons, List.map_nil]); first | done | rfl) ?_
      refine (block_first.calls _ _ _ HF1.out).mono ?_
      rintro e V2 ⟨rfl, hb⟩
      refine ⟨_, rfl, ?_⟩
      have HXn := hHeld.below hb; have HZn := Aside0.mk (below_step HZ.out hb); clear HZ; have HZ := HZn; clear HZn hb
      refine hK.out _ _ HXn (fun hHeld => ?_)
      clear hK K
      refine norm_ (a' := ?_) ?_ ?_
      rotate_left
      · show Act.put _ (some 5) _ = _
        simp only [Act.put, List.setIfInBounds_toArray, List.set_cons_zero, List.set_cons_succ, i64_w, i32_w]
        rfl
      refine pure_ (i := 5) (N := some 8) (v := ?_) (a' := ?_) #[true, true, true, true, true, true, false, false, false, false, false, false, false, false, false, false, false, false, false, false, false, false, false, false, false, false] rfl rfl (any_of HT_.out (by kernel_rfl)) (fun _ _ _ h => h) (Or.inl ⟨by rfl, ?_⟩) ?_ ?_
      rotate_left
      · intro w'
        go_simp
        with_reducible rfl
      rotate_left
      · simp only [Act.put, List.setIfInBounds_toArray, List.set_cons_zero, List.set_cons_succ, i64_w, i32_w]
        rfl
      refine pure_ (i := 6) (N := some 9) (v := ?_) (a' := ?_) #[true, true, true, true, true, true, true, false, false, false, false, false, false, false, false, false, false, false, false, false, false, false, false, false, false, false] rfl rfl (any_of HT_.out (by kernel_rfl)) (fun _ _ _ h => h) (Or.inl ⟨by rfl, ?_⟩) ?_ ?_
      rotate_left
      · intro w'
        go_simp
        with_reducible rfl
      rotate_left
      · simp only [Act.put, List.setIfInBounds_toArray, List.set_cons_zero, List.set_cons_succ, i64_w, i32_w]
        rfl
      refine pure_ (i := 7) (N := some 10) (v := ?_) (a' := ?_) #[true, true, true, true, true, true, true, true, false, false, false, false, false, false, false, false, false, false, false, false, false, false, false, false, false, false] rfl rfl (any_of HT_.out (by kernel_rfl)) (fun _ _ _ h => h) (Or.inl ⟨by rfl, ?_⟩) ?_ ?_
      rotate_left
      · intro w'
        go_simp
        with_reducible rfl
      rotate_left
      · simp only [Act.put, List.setIfInBounds_toArray, List.set_cons_zero, List.set_cons_succ, i64_w, i32_w]
        rfl
      refine take_ (i := 8) (N := some 11) (v := ?_) (a' := ?_) #[true, true, true, true, true, true, true, true, true, false, false, false, false, false, false, false, false, false, false, false, false, false, false, false, false, false] rfl rfl (take_ofW HT_.out HW_.out (by kernel_rfl)) (fun _ _ _ h => h) (Or.inl ⟨by rfl, ?_⟩) hHeld ?_ ?_
      rotate_left
      · intro w' hS_
        have s0 := hS_.cell 1 _ rfl
        go_simp
        with_reducible rfl
      rotate_left
      · simp only [Act.put, List.setIfInBounds_toArray, List.set_cons_zero, List.set_cons_succ, i64_w, i32_w]
        rfl
      refine one_ (i := 9) (N := some 12) #[true, true, true, true, true, true, true, true, true, true, false, false, false, false, false, false, false, false, false, false, false, false, false, false, false, false] rfl rfl (one_of HT_.out (by kernel_rfl)) (by decide) (fun K hK => ?_)
      refine goes_ Try.func79 (by kernel_rfl) rfl #[.string b.aff] (by rfl) rfl rfl (by (try simp only [List.map_toArray, List.map_cons, List.map_nil]); first | done | rfl) ?_
      refine (block_owner.calls _ _ _ HF2.out).mono ?_
      rintro e V9 ⟨rfl, hb⟩
      refine ⟨_, rfl, ?_⟩
      have HXn := hHeld.below hb; have HZn := Aside0.mk (below_step HZ.out hb); clear HZ; have HZ := HZn; clear HZn hb
      refine hK.out _ _ HXn (fun hHeld => ?_)
      clear hK K
      refine norm_ (a' := ?_) ?_ ?_
      rotate_left
      · show Act.put _ (some 12) _ = _
        simp only [Act.put, List.setIfInBounds_toArray, List.set_cons_zero, List.set_cons_succ, i64_w, i32_w]
        rfl
      refine pure_ (i := 10) (N := some 13) (v := ?_) (a' := ?_) #[true, true, true, true, true, true, true, true, true, true, true, false, false, false, false, false, false, false, false, false, false, false, false, false, false, false] rfl rfl (any_of HT_.out (by kernel_rfl)) (fun _ _ _ h => h) (Or.inl ⟨by rfl, ?_⟩) ?_ ?_
      rotate_left
      · intro w'
        go_simp
        with_reducible rfl
      rotate_left
      · simp only [Act.put, List.setIfInBounds_toArray, List.set_cons_zero, List.set_cons_succ, i64_w, i32_w]
        rfl
      refine pure_ (i := 11) (N := some 14) (v := ?_) (a' := ?_) #[true, true, true, true, true, true, true, true, true, true, true, true, false, false, false, false, false, false, false, false, false, false, false, false, false, false] rfl rfl (any_of HT_.out (by kernel_rfl)) (fun _ _ _ h => h) (Or.inl ⟨by rfl, ?_⟩) ?_ ?_
      rotate_left
      · intro w'
        go_simp
        with_reducible rfl
      rotate_left
      · simp only [Act.put, List.setIfInBounds_toArray, List.set_cons_zero, List.set_cons_succ, i64_w, i32_w]
        rfl
      refine pure_ (i := 12) (N := some 15) (v := undef) (a' := ?_) #[true, true, true, true, true, true, true, true, true, true, true, true, true, false, false, false, false, false, false, false, false, false, false, false, false, false] rfl rfl (any_of HT_.out (by kernel_rfl)) (fun _ _ _ h => h) (Or.inr ⟨by rfl, rfl⟩) ?_ ?_
      rotate_left
      · simp only [Act.put, List.setIfInBounds_toArray, List.set_cons_zero, List.set_cons_succ, i64_w, i32_w]
        rfl
      refine pure_ (i := 13) (N := some 16) (v := undef) (a' := ?_) #[true, true, true, true, true, true, true, true, true, true, true, true, true, true, false, false, false, false, false, false, false, false, false, false, false, false] rfl rfl (any_of HT_.out (by kernel_rfl)) (fun _ _ _ h => h) (Or.inr ⟨by rfl, rfl⟩) ?_ ?_
      rotate_left
      · simp only [Act.put, List.setIfInBounds_toArray, List.set_cons_zero, List.set_cons_succ, i64_w, i32_w]
        rfl
      refine pure_ (i := 14) (N := some 17) (v := undef) (a' := ?_) #[true, true, true, true, true, true, true, true, true, true, true, true, true, true, true, false, false, false, false, false, false, false, false, false, false, false] rfl rfl (any_of HT_.out (by kernel_rfl)) (fun _ _ _ h => h) (Or.inr ⟨by rfl, rfl⟩) ?_ ?_
      rotate_left
      · simp only [Act.put, List.setIfInBounds_toArray, List.set_cons_zero, List.set_cons_succ, i64_w, i32_w]
        rfl
      refine pure_ (i := 15) (N := some 18) (v := undef) (a' := ?_) #[true, true, true, true, true, true, true, true, true, true, true, true, true, true, true, true, false, false, false, false, false, false, false, false, false, false] rfl rfl (any_of HT_.out (by kernel_rfl)) (fun _ _ _ h => h) (Or.inr ⟨by rfl, rfl⟩) ?_ ?_
      rotate_left
      · simp only [Act.put, List.setIfInBounds_toArray, List.set_cons_zero, List.set_cons_succ, i64_w, i32_w]
        rfl
      refine pure_ (i := 16) (N := some 19) (v := ?_) (a' := ?_) #[true, true, true, true, true, true, true, true, true, true, true, true, true, true, true, true, true, false, false, false, false, false, false, false, false, false] rfl rfl (any_of HT_.out (by kernel_rfl)) (fun _ _ _ h => h) (Or.inl ⟨by rfl, ?_⟩) ?_ ?_
      rotate_left
      · intro w'
        go_simp
        with_reducible rfl
      rotate_left
      · simp only [Act.put, List.setIfInBounds_toArray, List.set_cons_zero, List.set_cons_succ, i64_w, i32_w]
        rfl
      refine pure_ (i := 17) (N := some 20) (v := ?_) (a' := ?_) #[true, true, true, true, true, true, true, true, true, true, true, true, true, true, true, true, true, true, false, false, false, false, false, false, false, false] rfl rfl (any_of HT_.out (by kernel_rfl)) (fun _ _ _ h => h) (Or.inl ⟨by rfl, ?_⟩) ?_ ?_
      rotate_left
      · intro w'
        go_simp
        with_reducible rfl
      rotate_left
      · simp only [Act.put, List.setIfInBounds_toArray, List.set_cons_zero, List.set_cons_succ, i64_w, i32_w]
        rfl
      refine pure_ (i := 18) (N := some 21) (v := undef) (a' := ?_) #[true, true, true, true, true, true, true, true, true, true, true, true, true, true, true, true, true, true, true, false, false, false, false, false, false, false] rfl rfl (any_of HT_.out (by kernel_rfl)) (fun _ _ _ h => h) (Or.inr ⟨by rfl, rfl⟩) ?_ ?_
      rotate_left
      · simp only [Act.put, List.setIfInBounds_toArray, List.set_cons_zero, List.set_cons_succ, i64_w, i32_w]
        rfl
      refine pure_ (i := 19) (N := some 22) (v := undef) (a' := ?_) #[true, true, true, true, true, true, true, true, true, true, true, true, true, true, true, true, true, true, true, true, false, false, false, false, false, false] rfl rfl (any_of HT_.out (by kernel_rfl)) (fun _ _ _ h => h) (Or.inr ⟨by rfl, rfl⟩) ?_ ?_
      rotate_left
      · simp only [Act.put, List.setIfInBounds_toArray, List.set_cons_zero, List.set_cons_succ, i64_w, i32_w]
        rfl
      refine pure_ (i := 20) (N := some 23) (v := ?_) (a' := ?_) #[true, true, true, true, true, true, true, true, true, true, true, true, true, true, true, true, true, true, true, true, true, false, false, false, false, false] rfl rfl (any_of HT_.out (by kernel_rfl)) (fun _ _ _ h => h) (Or.inl ⟨by rfl, ?_⟩) ?_ ?_
      rotate_left
      · intro w'
        go_simp
        with_reducible rfl
      rotate_left
      · simp only [Act.put, List.setIfInBounds_toArray, List.set_cons_zero, List.set_cons_succ, i64_w, i32_w]
        rfl
      refine pure_ (i := 21) (N := some 24) (v := ?_) (a' := ?_) #[true, true, true, true, true, true, true, true, true, true, true, true, true, true, true, true, true, true, true, true, true, true, false, false, false, false] rfl rfl (any_of HT_.out (by kernel_rfl)) (fun _ _ _ h => h) (Or.inl ⟨by rfl, ?_⟩) ?_ ?_
      rotate_left
      · intro w'
        go_simp
        with_reducible rfl
      rotate_left
      · simp only [Act.put, List.setIfInBounds_toArray, List.set_cons_zero, List.set_cons_succ, i64_w, i32_w]
        rfl
      refine pure_ (i := 22) (N := some 25) (v := undef) (a' := ?_) #[true, true, true, true, true, true, true, true, true, true, true, true, true, true, true, true, true, true, true, true, true, true, true, false, false, false] rfl rfl (any_of HT_.out (by kernel_rfl)) (fun _ _ _ h => h) (Or.inr ⟨by rfl, rfl⟩) ?_ ?_
      rotate_left
      · simp only [Act.put, List.setIfInBounds_toArray, List.set_cons_zero, List.set_cons_succ, i64_w, i32_w]
        rfl
      refine pure_ (i := 23) (N := some 26) (v := undef) (a' := ?_) #[true, true, true, true, true, true, true, true, true, true, true, true, true, true, true, true, true, true, true, true, true, true, true, true, false, false] rfl rfl (any_of HT_.out (by kernel_rfl)) (fun _ _ _ h => h) (Or.inr ⟨by rfl, rfl⟩) ?_ ?_
      rotate_left
      · simp only [Act.put, List.setIfInBounds_toArray, List.set_cons_zero, List.set_cons_succ, i64_w, i32_w]
        rfl
      refine pure_ (i := 24) (N := some 27) (v := ?_) (a' := ?_) #[true, true, true, true, true, true, true, true, true, true, true, true, true, true, true, true, true, true, true, true, true, true, true, true, true, false] rfl rfl (any_of HT_.out (by kernel_rfl)) (fun _ _ _ h => h) (Or.inl ⟨by rfl, ?_⟩) ?_ ?_
      rotate_left
      · intro w'
        go_simp
        with_reducible rfl
      rotate_left
      · simp only [Act.put, List.setIfInBounds_toArray, List.set_cons_zero, List.set_cons_succ, i64_w, i32_w]
        rfl
      refine pure_ (i := 25) (N := some 2) (v := ?_) (a' := ?_) #[true, true, true, true, true, true, true, true, true, true, true, true, true, true, true, true, true, true, true, true, true, true, true, true, true, true] rfl rfl (any_of HT_.out (by kernel_rfl)) (fun _ _ _ h => h) (Or.inl ⟨by rfl, ?_⟩) ?_ ?_
      rotate_left
      · intro w'
        go_simp
        with_reducible rfl
      rotate_left
      · simp only [Act.put, List.setIfInBounds_toArray, List.set_cons_zero, List.set_cons_succ, i64_w, i32_w]
        rfl
      refine done_ (done_of HT_.out (by kernel_rfl)) ?_
      try go_wp2
      go_ret
      refine ⟨?_, HB.out.trans (HZ.out.mono HB.out.size)⟩
      rw [HV.out]; rfl
    | true =>
      rw [h2] at HF2
      by_cases h3 : b.attrs.length ≤ 64
      · have h3b : decide ((b.attrs.length : Int) ≤ 64) = true := by simp; omega
        have HN := Aside0.mk h3
        cases h4 : attrsOk b with
        | false =>
          have HV := Aside0.mk (show rightB b = false by unfold rightB; rw [h1, h2, h4]; simp)
          have HA4 := Aside0.mk h4
          refine start_ (n := 26) (S := fun w' => Box w' g (bkL b.addr b.aff b.slots (.slice A b.free.length c) (.slice A' b.attrs.length c')) 57) (ds := []) #[false, false, false, false, false, false, false, false, false, false, false, false, false, false, false, false, false, false, false, false, false, false, false, false, false, false] (by kernel_rfl) rfl rfl HX.out (fun hHeld => ?_); refine with_tabW bright1.tab1 bright1.bits1 (fun HT_ HW_ => ?_)
          refine pure_ (i := 0) (N := some 3) (v := ?_) (a' := ?_) #[true, false, false, false, false, false, false, false, false, false, false, false, false, false, false, false, false, false, false, false, false, false, false, false, false, false] rfl rfl (any_of HT_.out (by kernel_rfl)) (fun _ _ _ h => h) (Or.inl ⟨by rfl, ?_⟩) ?_ ?_
          rotate_left
          · intro w'
            go_simp
            with_reducible rfl
          rotate_left
          · simp only [Act.put, List.setIfInBounds_toArray, List.set_cons_zero, List.set_cons_succ, i64_w, i32_w]
            rfl
          refine take_ (i := 1) (N := some 4) (v := ?_) (a' := ?_) #[true, true, false, false, false, false, false, false, false, false, false, false, false, false, false, false, false, false, false, false, false, false, false, false, false, false] rfl rfl (take_ofW HT_.out HW_.out (by kernel_rfl)) (fun _ _ _ h => h) (Or.inl ⟨by rfl, ?_⟩) hHeld ?_ ?_
          rotate_left
          · intro w' hS_
            have s0 := hS_.cell 0 _ rfl
            go_simp
            with_reducible rfl
          rotate_left
          · simp only [Act.put, List.setIfInBounds_toArray, List.set_cons_zero, List.set_cons_succ, i64_w, i32_w]
            rfl
          refine pure_ (i := 3) (N := some 6) (v := ?_) (a' := ?_) #[true, true, false, true, false, false, false, false, false, false, false, false, false, false, false, false, false, false, false, false, false, false, false, false, false, false] rfl rfl (any_of HT_.out (by kernel_rfl)) (fun _ _ _ h => h) (Or.inl ⟨by rfl, ?_⟩) ?_ ?_
          rotate_left
          · intro w'
            go_simp
            with_reducible rfl
          rotate_left
          · simp only [Act.put, List.setIfInBounds_toArray, List.set_cons_zero, List.set_cons_succ, i64_w, i32_w]
            rfl
          refine take_ (i := 4) (N := some 7) (v := ?_) (a' := ?_) #[true, true, false, true, true, false, false, false, false, false, false, false, false, false, false, false, false, false, false, false, false, false, false, false, false, false] rfl rfl (take_ofW HT_.out HW_.out (by kernel_rfl)) (fun _ _ _ h => h) (Or.inl ⟨by rfl, ?_⟩) hHeld ?_ ?_
          rotate_left
          · intro w' hS_
            have s0 := hS_.cell 0 _ rfl
            go_simp
            with_reducible rfl
          rotate_left
          · simp only [Act.put, List.setIfInBounds_toArray, List.set_cons_zero, List.set_cons_succ, i64_w, i32_w]
            rfl
          refine one_ (i := 2) (N := some 5) #[true, true, true, true, true, false, false, false, false, false, false, false, false, false, false, false, false, false, false, false, false, false, false, false, false, false] rfl rfl (one_of HT_.out (by kernel_rfl)) (by decide) (fun K hK => ?_)
          refine goes_ Try.func80 (by kernel_rfl) rfl #[.int .u32 b.addr] (by rfl) rfl rfl (by (try simp only [List.map_toArray, List.map_cons, List.map_nil]); first | done | rfl) ?_
          refine (block_first.calls _ _ _ HF1.out).mono ?_
          rintro e V2 ⟨rfl, hb⟩
          refine ⟨_, rfl, ?_⟩
          have HXn := hHeld.below hb; have HZn := Aside0.mk (below_step HZ.out hb); clear HZ; have HZ := HZn; clear HZn hb
          refine hK.out _ _ HXn (fun hHeld => ?_)
          clear hK K
          refine norm_ (a' := ?_) ?_ ?_
          rotate_left
          · show Act.put _ (some 5) _ = _
            simp only [Act.put, List.setIfInBounds_toArray, List.set_cons_zero, List.set_cons_succ, i64_w, i32_w]
            rfl
          refine pure_ (i := 5) (N := some 8) (v := ?_) (a' := ?_) #[true, true, true, true, true, true, false, false, false, false, false, false, false, false, false, false, false, false, false, false, false, false, false, false, false, false] rfl rfl (any_of HT_.out (by kernel_rfl)) (fun _ _ _ h => h) (Or.inl ⟨by rfl, ?_⟩) ?_ ?_
          rotate_left
          · intro w'
            go_simp
            with_reducible rfl
          rotate_left
          · simp only [Act.put, List.setIfInBounds_toArray, List.set_cons_zero, List.set_cons_succ, i64_w, i32_w]
            rfl
          refine pure_ (i := 6) (N := some 9) (v := ?_) (a' := ?_) #[true, true, true, true, true, true, true, false, false, false, false, false, false, false, false, false, false, false, false, false, false, false, false, false, false, false] rfl rfl (any_of HT_.out (by kernel_rfl)) (fun _ _ _ h => h) (Or.inl ⟨by rfl, ?_⟩) ?_ ?_
          rotate_left
          · intro w'
            go_simp
            with_reducible rfl
          rotate_left
          · simp only [Act.put, List.setIfInBounds_toArray, List.set_cons_zero, List.set_cons_succ, i64_w, i32_w]
            rfl
          refine pure_ (i := 7) (N := some 10) (v := ?_) (a' := ?_) #[true, true, true, true, true, true, true, true, false, false, false, false, false, false, false, false, false, false, false, false, false, false, false, false, false, false] rfl rfl (any_of HT_.out (by kernel_rfl)) (fun _ _ _ h => h) (Or.inl ⟨by rfl, ?_⟩) ?_ ?_
          rotate_left
          · intro w'
            go_simp
            with_reducible rfl
          rotate_left
          · simp only [Act.put, List.setIfInBounds_toArray, List.set_cons_zero, List.set_cons_succ, i64_w, i32_w]
            rfl
          refine take_ (i := 8) (N := some 11) (v := ?_) (a' := ?_) #[true, true, true, true, true, true, true, true, true, false, false, false, false, false, false, false, false, false, false, false, false, false, false, false, false, false] rfl rfl (take_ofW HT_.out HW_.out (by kernel_rfl)) (fun _ _ _ h => h) (Or.inl ⟨by rfl, ?_⟩) hHeld ?_ ?_
          rotate_left
          · intro w' hS_
            have s0 := hS_.cell 1 _ rfl
            go_simp
            with_reducible rfl
          rotate_left
          · simp only [Act.put, List.setIfInBounds_toArray, List.set_cons_zero, List.set_cons_succ, i64_w, i32_w]
            rfl
          refine one_ (i := 9) (N := some 12) #[true, true, true, true, true, true, true, true, true, true, false, false, false, false, false, false, false, false, false, false, false, false, false, false, false, false] rfl rfl (one_of HT_.out (by kernel_rfl)) (by decide) (fun K hK => ?_)
          refine goes_ Try.func79 (by kernel_rfl) rfl #[.string b.aff] (by rfl) rfl rfl (by (try simp only [List.map_toArray, List.map_cons, List.map_nil]); first | done | rfl) ?_
          refine (block_owner.calls _ _ _ HF2.out).mono ?_
          rintro e V9 ⟨rfl, hb⟩
          refine ⟨_, rfl, ?_⟩
          have HXn := hHeld.below hb; have HZn := Aside0.mk (below_step HZ.out hb); clear HZ; have HZ := HZn; clear HZn hb
          refine hK.out _ _ HXn (fun hHeld => ?_)
          clear hK K
          refine norm_ (a' := ?_) ?_ ?_
          rotate_left
          · show Act.put _ (some 12) _ = _
            simp only [Act.put, List.setIfInBounds_toArray, List.set_cons_zero, List.set_cons_succ, i64_w, i32_w]
            rfl
          refine pure_ (i := 10) (N := some 13) (v := ?_) (a' := ?_) #[true, true, true, true, true, true, true, true, true, true, true, false, false, false, false, false, false, false, false, false, false, false, false, false, false, false] rfl rfl (any_of HT_.out (by kernel_rfl)) (fun _ _ _ h => h) (Or.inl ⟨by rfl, ?_⟩) ?_ ?_
          rotate_left
          · intro w'
            go_simp
            with_reducible rfl
          rotate_left
          · simp only [Act.put, List.setIfInBounds_toArray, List.set_cons_zero, List.set_cons_succ, i64_w, i32_w]
            rfl
          refine pure_ (i := 11) (N := some 14) (v := ?_) (a' := ?_) #[true, true, true, true, true, true, true, true, true, true, true, true, false, false, false, false, false, false, false, false, false, false, false, false, false, false] rfl rfl (any_of HT_.out (by kernel_rfl)) (fun _ _ _ h => h) (Or.inl ⟨by rfl, ?_⟩) ?_ ?_
          rotate_left
          · intro w'
            go_simp
            with_reducible rfl
          rotate_left
          · simp only [Act.put, List.setIfInBounds_toArray, List.set_cons_zero, List.set_cons_succ, i64_w, i32_w]
            rfl
          refine pure_ (i := 12) (N := some 15) (v := ?_) (a' := ?_) #[true, true, true, true, true, true, true, true, true, true, true, true, true, false, false, false, false, false, false, false, false, false, false, false, false, false] rfl rfl (any_of HT_.out (by kernel_rfl)) (fun _ _ _ h => h) (Or.inl ⟨by rfl, ?_⟩) ?_ ?_
          rotate_left
          · intro w'
            go_simp
            with_reducible rfl
          rotate_left
          · simp only [Act.put, List.setIfInBounds_toArray, List.set_cons_zero, List.set_cons_succ, i64_w, i32_w]
            rfl
          refine take_ (i := 13) (N := some 16) (v := ?_) (a' := ?_) #[true, true, true, true, true, true, true, true, true, true, true, true, true, true, false, false, false, false, false, false, false, false, false, false, false, false] rfl rfl (take_ofW HT_.out HW_.out (by kernel_rfl)) (fun _ _ _ h => h) (Or.inl ⟨by rfl, ?_⟩) hHeld ?_ ?_
          rotate_left
          · intro w' hS_
            have s0 := hS_.cell 67 _ (bkL_67 _ _ _ _ _ HL.out)
            go_simp
            with_reducible rfl
          rotate_left
          · simp only [Act.put, List.setIfInBounds_toArray, List.set_cons_zero, List.set_cons_succ, i64_w, i32_w]
            rfl
          refine pure_ (i := 14) (N := some 17) (v := ?_) (a' := ?_) #[true, true, true, true, true, true, true, true, true, true, true, true, true, true, true, false, false, false, false, false, false, false, false, false, false, false] rfl rfl (any_of HT_.out (by kernel_rfl)) (fun _ _ _ h => h) (Or.inl ⟨by rfl, ?_⟩) ?_ ?_
          rotate_left
          · intro w'
            go_simp
            with_reducible rfl
          rotate_left
          · simp only [Act.put, List.setIfInBounds_toArray, List.set_cons_zero, List.set_cons_succ, i64_w, i32_w]
            rfl
          refine pure_ (i := 15) (N := some 18) (v := ?_) (a' := ?_) #[true, true, true, true, true, true, true, true, true, true, true, true, true, true, true, true, false, false, false, false, false, false, false, false, false, false] rfl rfl (any_of HT_.out (by kernel_rfl)) (fun _ _ _ h => h) (Or.inl ⟨by rfl, ?_⟩) ?_ ?_
          rotate_left
          · intro w'
            go_simp
            with_reducible rfl
          rotate_left
          · simp only [Act.put, List.setIfInBounds_toArray, List.set_cons_zero, List.set_cons_succ, i64_w, i32_w]
            rfl
          refine pure_ (i := 16) (N := some 19) (v := ?_) (a' := ?_) #[true, true, true, true, true, true, true, true, true, true, true, true, true, true, true, true, true, false, false, false, false, false, false, false, false, false] rfl rfl (any_of HT_.out (by kernel_rfl)) (fun _ _ _ h => h) (Or.inl ⟨by rfl, ?_⟩) ?_ ?_
          rotate_left
          · intro w'
            go_simp
            with_reducible rfl
          rotate_left
          · simp only [Act.put, List.setIfInBounds_toArray, List.set_cons_zero, List.set_cons_succ, i64_w, i32_w]
            rfl
          refine pure_ (i := 17) (N := some 20) (v := ?_) (a' := ?_) #[true, true, true, true, true, true, true, true, true, true, true, true, true, true, true, true, true, true, false, false, false, false, false, false, false, false] rfl rfl (any_of HT_.out (by kernel_rfl)) (fun _ _ _ h => h) (Or.inl ⟨by rfl, ?_⟩) ?_ ?_
          rotate_left
          · intro w'
            go_simp
            with_reducible rfl
          rotate_left
          · simp only [Act.put, List.setIfInBounds_toArray, List.set_cons_zero, List.set_cons_succ, i64_w, i32_w]
            rfl
          refine take_ (i := 18) (N := some 21) (v := ?_) (a' := ?_) #[true, true, true, true, true, true, true, true, true, true, true, true, true, true, true, true, true, true, true, false, false, false, false, false, false, false] rfl rfl (take_ofW HT_.out HW_.out (by kernel_rfl)) (fun _ _ _ h => h) (Or.inl ⟨by rfl, ?_⟩) hHeld ?_ ?_
          rotate_left
          · intro w' hS_
            refine run_load_box 57 (.tmp 1) ?_ g ?_ _ _ _ hS_ Try.underlying57 rfl HLL.out
            rfl
            rfl
          rotate_left
          · simp only [Act.put, List.setIfInBounds_toArray, List.set_cons_zero, List.set_cons_succ, i64_w, i32_w]
            rfl
          refine one_ (i := 19) (N := some 22) #[true, true, true, true, true, true, true, true, true, true, true, true, true, true, true, true, true, true, true, true, false, false, false, false, false, false] rfl rfl (one_of HT_.out (by kernel_rfl)) (by decide) (fun K hK => ?_)
          refine goes_ Try.func86 (by kernel_rfl) rfl #[.agg (bkL b.addr b.aff b.slots (.slice A b.free.length c) (.slice A' b.attrs.length c')).toArray] (by rfl) rfl rfl (by (try simp only [List.map_toArray, List.map_cons, List.map_nil]); first | done | rfl) ?_
          refine (attrs_any b HS.out HN.out _ _ ⟨A, c, A', c', rfl, HR1.out.below HZ.out⟩).mono ?_
          rintro e V19 ⟨rfl, hb⟩
          refine ⟨_, rfl, ?_⟩
          have HXn := hHeld.below hb; rw [HA4.out]; have HZn := Aside0.mk (below_step HZ.out hb); clear HZ; have HZ := HZn; clear HZn hb
          refine hK.out _ _ HXn (fun hHeld => ?_)
          clear hK K
          refine norm_ (a' := ?_) ?_ ?_
          rotate_left
          · show Act.put _ (some 22) _ = _
            simp only [Act.put, List.setIfInBounds_toArray, List.set_cons_zero, List.set_cons_succ, i64_w, i32_w]
            rfl
          refine pure_ (i := 20) (N := some 23) (v := ?_) (a' := ?_) #[true, true, true, true, true, true, true, true, true, true, true, true, true, true, true, true, true, true, true, true, true, false, false, false, false, false] rfl rfl (any_of HT_.out (by kernel_rfl)) (fun _ _ _ h => h) (Or.inl ⟨by rfl, ?_⟩) ?_ ?_
          rotate_left
          · intro w'
            go_simp
            with_reducible rfl
          rotate_left
          · simp only [Act.put, List.setIfInBounds_toArray, List.set_cons_zero, List.set_cons_succ, i64_w, i32_w]
            rfl
          refine pure_ (i := 21) (N := some 24) (v := ?_) (a' := ?_) #[true, true, true, true, true, true, true, true, true, true, true, true, true, true, true, true, true, true, true, true, true, true, false, false, false, false] rfl rfl (any_of HT_.out (by kernel_rfl)) (fun _ _ _ h => h) (Or.inl ⟨by rfl, ?_⟩) ?_ ?_
          rotate_left
          · intro w'
            go_simp
            with_reducible rfl
          rotate_left
          · simp only [Act.put, List.setIfInBounds_toArray, List.set_cons_zero, List.set_cons_succ, i64_w, i32_w]
            rfl
          refine pure_ (i := 22) (N := some 25) (v := undef) (a' := ?_) #[true, true, true, true, true, true, true, true, true, true, true, true, true, true, true, true, true, true, true, true, true, true, true, false, false, false] rfl rfl (any_of HT_.out (by kernel_rfl)) (fun _ _ _ h => h) (Or.inr ⟨by rfl, rfl⟩) ?_ ?_
          rotate_left
          · simp only [Act.put, List.setIfInBounds_toArray, List.set_cons_zero, List.set_cons_succ, i64_w, i32_w]
            rfl
          refine pure_ (i := 23) (N := some 26) (v := undef) (a' := ?_) #[true, true, true, true, true, true, true, true, true, true, true, true, true, true, true, true, true, true, true, true, true, true, true, true, false, false] rfl rfl (any_of HT_.out (by kernel_rfl)) (fun _ _ _ h => h) (Or.inr ⟨by rfl, rfl⟩) ?_ ?_
          rotate_left
          · simp only [Act.put, List.setIfInBounds_toArray, List.set_cons_zero, List.set_cons_succ, i64_w, i32_w]
            rfl
          refine pure_ (i := 24) (N := some 27) (v := ?_) (a' := ?_) #[true, true, true, true, true, true, true, true, true, true, true, true, true, true, true, true, true, true, true, true, true, true, true, true, true, false] rfl rfl (any_of HT_.out (by kernel_rfl)) (fun _ _ _ h => h) (Or.inl ⟨by rfl, ?_⟩) ?_ ?_
          rotate_left
          · intro w'
            go_simp
            with_reducible rfl
          rotate_left
          · simp only [Act.put, List.setIfInBounds_toArray, List.set_cons_zero, List.set_cons_succ, i64_w, i32_w]
            rfl
          refine pure_ (i := 25) (N := some 2) (v := ?_) (a' := ?_) #[true, true, true, true, true, true, true, true, true, true, true, true, true, true, true, true, true, true, true, true, true, true, true, true, true, true] rfl rfl (any_of HT_.out (by kernel_rfl)) (fun _ _ _ h => h) (Or.inl ⟨by rfl, ?_⟩) ?_ ?_
          rotate_left
          · intro w'
            go_simp
            with_reducible rfl
          rotate_left
          · simp only [Act.put, List.setIfInBounds_toArray, List.set_cons_zero, List.set_cons_succ, i64_w, i32_w]
            rfl
          refine done_ (done_of HT_.out (by kernel_rfl)) ?_
          try go_wp2
          go_ret
          refine ⟨?_, HB.out.trans (HZ.out.mono HB.out.size)⟩
          rw [HV.out]; rfl
        | true =>
          have HV := Aside0.mk (show rightB b = freeOk b by unfold rightB; rw [h1, h2, h4, decide_eq_true h3]; rfl)
          have HA4 := Aside0.mk h4
          refine start_ (n := 26) (S := fun w' => Box w' g (bkL b.addr b.aff b.slots (.slice A b.free.length c) (.slice A' b.attrs.length c')) 57) (ds := []) #[false, false, false, false, false, false, false, false, false, false, false, false, false, false, false, false, false, false, false, false, false, false, false, false, false, false] (by kernel_rfl) rfl rfl HX.out (fun hHeld => ?_); refine with_tabW bright1.tab1 bright1.bits1 (fun HT_ HW_ => ?_)
          refine pure_ (i := 0) (N := some 3) (v := ?_) (a' := ?_) #[true, false, false, false, false, false, false, false, false, false, false, false, false, false, false, false, false, false, false, false, false, false, false, false, false, false] rfl rfl (any_of HT_.out (by kernel_rfl)) (fun _ _ _ h => h) (Or.inl ⟨by rfl, ?_⟩) ?_ ?_
          rotate_left
          · intro w'
            go_simp
            with_reducible rfl
          rotate_left
          · simp only [Act.put, List.setIfInBounds_toArray, List.set_cons_zero, List.set_cons_succ, i64_w, i32_w]
            rfl
          refine take_ (i := 1) (N := some 4) (v := ?_) (a' := ?_) #[true, true, false, false, false, false, false, false, false, false, false, false, false, false, false, false, false, false, false, false, false, false, false, false, false, false] rfl rfl (take_ofW HT_.out HW_.out (by kernel_rfl)) (fun _ _ _ h => h) (Or.inl ⟨by rfl, ?_⟩) hHeld ?_ ?_
          rotate_left
          · intro w' hS_
            have s0 := hS_.cell 0 _ rfl
            go_simp
            with_reducible rfl
          rotate_left
          · simp only [Act.put, List.setIfInBounds_toArray, List.set_cons_zero, List.set_cons_succ, i64_w, i32_w]
            rfl
          refine pure_ (i := 3) (N := some 6) (v := ?_) (a' := ?_) #[true, true, false, true, false, false, false, false, false, false, false, false, false, false, false, false, false, false, false, false, false, false, false, false, false, false] rfl rfl (any_of HT_.out (by kernel_rfl)) (fun _ _ _ h => h) (Or.inl ⟨by rfl, ?_⟩) ?_ ?_
          rotate_left
          · intro w'
            go_simp
            with_reducible rfl
          rotate_left
          · simp only [Act.put, List.setIfInBounds_toArray, List.set_cons_zero, List.set_cons_succ, i64_w, i32_w]
            rfl
          refine take_ (i := 4) (N := some 7) (v := ?_) (a' := ?_) #[true, true, false, true, true, false, false, false, false, false, false, false, false, false, false, false, false, false, false, false, false, false, false, false, false, false] rfl rfl (take_ofW HT_.out HW_.out (by kernel_rfl)) (fun _ _ _ h => h) (Or.inl ⟨by rfl, ?_⟩) hHeld ?_ ?_
          rotate_left
          · intro w' hS_
            have s0 := hS_.cell 0 _ rfl
            go_simp
            with_reducible rfl
          rotate_left
          · simp only [Act.put, List.setIfInBounds_toArray, List.set_cons_zero, List.set_cons_succ, i64_w, i32_w]
            rfl
          refine one_ (i := 2) (N := some 5) #[true, true, true, true, true, false, false, false, false, false, false, false, false, false, false, false, false, false, false, false, false, false, false, false, false, false] rfl rfl (one_of HT_.out (by kernel_rfl)) (by decide) (fun K hK => ?_)
          refine goes_ Try.func80 (by kernel_rfl) rfl #[.int .u32 b.addr] (by rfl) rfl rfl (by (try simp only [List.map_toArray, List.map_cons, List.map_nil]); first | done | rfl) ?_
          refine (block_first.calls _ _ _ HF1.out).mono ?_
          rintro e V2 ⟨rfl, hb⟩
          refine ⟨_, rfl, ?_⟩
          have HXn := hHeld.below hb; have HZn := Aside0.mk (below_step HZ.out hb); clear HZ; have HZ := HZn; clear HZn hb
          refine hK.out _ _ HXn (fun hHeld => ?_)
          clear hK K
          refine norm_ (a' := ?_) ?_ ?_
          rotate_left
          · show Act.put _ (some 5) _ = _
            simp only [Act.put, List.setIfInBounds_toArray, List.set_cons_zero, List.set_cons_succ, i64_w, i32_w]
            rfl
          refine pure_ (i := 5) (N := some 8) (v := ?_) (a' := ?_) #[true, true, true, true, true, true, false, false, false, false, false, false, false, false, false, false, false, false, false, false, false, false, false, false, false, false] rfl rfl (any_of HT_.out (by kernel_rfl)) (fun _ _ _ h => h) (Or.inl ⟨by rfl, ?_⟩) ?_ ?_
          rotate_left
          · intro w'
            go_simp
            with_reducible rfl
          rotate_left
          · simp only [Act.put, List.setIfInBounds_toArray, List.set_cons_zero, List.set_cons_succ, i64_w, i32_w]
            rfl
          refine pure_ (i := 6) (N := some 9) (v := ?_) (a' := ?_) #[true, true, true, true, true, true, true, false, false, false, false, false, false, false, false, false, false, false, false, false, false, false, false, false, false, false] rfl rfl (any_of HT_.out (by kernel_rfl)) (fun _ _ _ h => h) (Or.inl ⟨by rfl, ?_⟩) ?_ ?_
          rotate_left
          · intro w'
            go_simp
            with_reducible rfl
          rotate_left
          · simp only [Act.put, List.setIfInBounds_toArray, List.set_cons_zero, List.set_cons_succ, i64_w, i32_w]
            rfl
          refine pure_ (i := 7) (N := some 10) (v := ?_) (a' := ?_) #[true, true, true, true, true, true, true, true, false, false, false, false, false, false, false, false, false, false, false, false, false, false, false, false, false, false] rfl rfl (any_of HT_.out (by kernel_rfl)) (fun _ _ _ h => h) (Or.inl ⟨by rfl, ?_⟩) ?_ ?_
          rotate_left
          · intro w'
            go_simp
            with_reducible rfl
          rotate_left
          · simp only [Act.put, List.setIfInBounds_toArray, List.set_cons_zero, List.set_cons_succ, i64_w, i32_w]
            rfl
          refine take_ (i := 8) (N := some 11) (v := ?_) (a' := ?_) #[true, true, true, true, true, true, true, true, true, false, false, false, false, false, false, false, false, false, false, false, false, false, false, false, false, false] rfl rfl (take_ofW HT_.out HW_.out (by kernel_rfl)) (fun _ _ _ h => h) (Or.inl ⟨by rfl, ?_⟩) hHeld ?_ ?_
          rotate_left
          · intro w' hS_
            have s0 := hS_.cell 1 _ rfl
            go_simp
            with_reducible rfl
          rotate_left
          · simp only [Act.put, List.setIfInBounds_toArray, List.set_cons_zero, List.set_cons_succ, i64_w, i32_w]
            rfl
          refine one_ (i := 9) (N := some 12) #[true, true, true, true, true, true, true, true, true, true, false, false, false, false, false, false, false, false, false, false, false, false, false, false, false, false] rfl rfl (one_of HT_.out (by kernel_rfl)) (by decide) (fun K hK => ?_)
          refine goes_ Try.func79 (by kernel_rfl) rfl #[.string b.aff] (by rfl) rfl rfl (by (try simp only [List.map_toArray, List.map_cons, List.map_nil]); first | done | rfl) ?_
          refine (block_owner.calls _ _ _ HF2.out).mono ?_
          rintro e V9 ⟨rfl, hb⟩
          refine ⟨_, rfl, ?_⟩
          have HXn := hHeld.below hb; have HZn := Aside0.mk (below_step HZ.out hb); clear HZ; have HZ := HZn; clear HZn hb
          refine hK.out _ _ HXn (fun hHeld => ?_)
          clear hK K
          refine norm_ (a' := ?_) ?_ ?_
          rotate_left
          · show Act.put _ (some 12) _ = _
            simp only [Act.put, List.setIfInBounds_toArray, List.set_cons_zero, List.set_cons_succ, i64_w, i32_w]
            rfl
          refine pure_ (i := 10) (N := some 13) (v := ?_) (a' := ?_) #[true, true, true, true, true, true, true, true, true, true, true, false, false, false, false, false, false, false, false, false, false, false, false, false, false, false] rfl rfl (any_of HT_.out (by kernel_rfl)) (fun _ _ _ h => h) (Or.inl ⟨by rfl, ?_⟩) ?_ ?_
          rotate_left
          · intro w'
            go_simp
            with_reducible rfl
          rotate_left
          · simp only [Act.put, List.setIfInBounds_toArray, List.set_cons_zero, List.set_cons_succ, i64_w, i32_w]
            rfl
          refine pure_ (i := 11) (N := some 14) (v := ?_) (a' := ?_) #[true, true, true, true, true, true, true, true, true, true, true, true, false, false, false, false, false, false, false, false, false, false, false, false, false, false] rfl rfl (any_of HT_.out (by kernel_rfl)) (fun _ _ _ h => h) (Or.inl ⟨by rfl, ?_⟩) ?_ ?_
          rotate_left
          · intro w'
            go_simp
            with_reducible rfl
          rotate_left
          · simp only [Act.put, List.setIfInBounds_toArray, List.set_cons_zero, List.set_cons_succ, i64_w, i32_w]
            rfl
          refine pure_ (i := 12) (N := some 15) (v := ?_) (a' := ?_) #[true, true, true, true, true, true, true, true, true, true, true, true, true, false, false, false, false, false, false, false, false, false, false, false, false, false] rfl rfl (any_of HT_.out (by kernel_rfl)) (fun _ _ _ h => h) (Or.inl ⟨by rfl, ?_⟩) ?_ ?_
          rotate_left
          · intro w'
            go_simp
            with_reducible rfl
          rotate_left
          · simp only [Act.put, List.setIfInBounds_toArray, List.set_cons_zero, List.set_cons_succ, i64_w, i32_w]
            rfl
          refine take_ (i := 13) (N := some 16) (v := ?_) (a' := ?_) #[true, true, true, true, true, true, true, true, true, true, true, true, true, true, false, false, false, false, false, false, false, false, false, false, false, false] rfl rfl (take_ofW HT_.out HW_.out (by kernel_rfl)) (fun _ _ _ h => h) (Or.inl ⟨by rfl, ?_⟩) hHeld ?_ ?_
          rotate_left
          · intro w' hS_
            have s0 := hS_.cell 67 _ (bkL_67 _ _ _ _ _ HL.out)
            go_simp
            with_reducible rfl
          rotate_left
          · simp only [Act.put, List.setIfInBounds_toArray, List.set_cons_zero, List.set_cons_succ, i64_w, i32_w]
            rfl
          refine pure_ (i := 14) (N := some 17) (v := ?_) (a' := ?_) #[true, true, true, true, true, true, true, true, true, true, true, true, true, true, true, false, false, false, false, false, false, false, false, false, false, false] rfl rfl (any_of HT_.out (by kernel_rfl)) (fun _ _ _ h => h) (Or.inl ⟨by rfl, ?_⟩) ?_ ?_
          rotate_left
          · intro w'
            go_simp
            with_reducible rfl
          rotate_left
          · simp only [Act.put, List.setIfInBounds_toArray, List.set_cons_zero, List.set_cons_succ, i64_w, i32_w]
            rfl
          refine pure_ (i := 15) (N := some 18) (v := ?_) (a' := ?_) #[true, true, true, true, true, true, true, true, true, true, true, true, true, true, true, true, false, false, false, false, false, false, false, false, false, false] rfl rfl (any_of HT_.out (by kernel_rfl)) (fun _ _ _ h => h) (Or.inl ⟨by rfl, ?_⟩) ?_ ?_
          rotate_left
          · intro w'
            go_simp
            with_reducible rfl
          rotate_left
          · simp only [Act.put, List.setIfInBounds_toArray, List.set_cons_zero, List.set_cons_succ, i64_w, i32_w]
            rfl
          refine pure_ (i := 16) (N := some 19) (v := ?_) (a' := ?_) #[true, true, true, true, true, true, true, true, true, true, true, true, true, true, true, true, true, false, false, false, false, false, false, false, false, false] rfl rfl (any_of HT_.out (by kernel_rfl)) (fun _ _ _ h => h) (Or.inl ⟨by rfl, ?_⟩) ?_ ?_
          rotate_left
          · intro w'
            go_simp
            with_reducible rfl
          rotate_left
          · simp only [Act.put, List.setIfInBounds_toArray, List.set_cons_zero, List.set_cons_succ, i64_w, i32_w]
            rfl
          refine pure_ (i := 17) (N := some 20) (v := ?_) (a' := ?_) #[true, true, true, true, true, true, true, true, true, true, true, true, true, true, true, true, true, true, false, false, false, false, false, false, false, false] rfl rfl (any_of HT_.out (by kernel_rfl)) (fun _ _ _ h => h) (Or.inl ⟨by rfl, ?_⟩) ?_ ?_
          rotate_left
          · intro w'
            go_simp
            with_reducible rfl
          rotate_left
          · simp only [Act.put, List.setIfInBounds_toArray, List.set_cons_zero, List.set_cons_succ, i64_w, i32_w]
            rfl
          refine take_ (i := 18) (N := some 21) (v := ?_) (a' := ?_) #[true, true, true, true, true, true, true, true, true, true, true, true, true, true, true, true, true, true, true, false, false, false, false, false, false, false] rfl rfl (take_ofW HT_.out HW_.out (by kernel_rfl)) (fun _ _ _ h => h) (Or.inl ⟨by rfl, ?_⟩) hHeld ?_ ?_
          rotate_left
          · intro w' hS_
            refine run_load_box 57 (.tmp 1) ?_ g ?_ _ _ _ hS_ Try.underlying57 rfl HLL.out
            rfl
            rfl
          rotate_left
          · simp only [Act.put, List.setIfInBounds_toArray, List.set_cons_zero, List.set_cons_succ, i64_w, i32_w]
            rfl
          refine one_ (i := 19) (N := some 22) #[true, true, true, true, true, true, true, true, true, true, true, true, true, true, true, true, true, true, true, true, false, false, false, false, false, false] rfl rfl (one_of HT_.out (by kernel_rfl)) (by decide) (fun K hK => ?_)
          refine goes_ Try.func86 (by kernel_rfl) rfl #[.agg (bkL b.addr b.aff b.slots (.slice A b.free.length c) (.slice A' b.attrs.length c')).toArray] (by rfl) rfl rfl (by (try simp only [List.map_toArray, List.map_cons, List.map_nil]); first | done | rfl) ?_
          refine (attrs_any b HS.out HN.out _ _ ⟨A, c, A', c', rfl, HR1.out.below HZ.out⟩).mono ?_
          rintro e V19 ⟨rfl, hb⟩
          refine ⟨_, rfl, ?_⟩
          have HXn := hHeld.below hb; rw [HA4.out]; have HZn := Aside0.mk (below_step HZ.out hb); clear HZ; have HZ := HZn; clear HZn hb
          refine hK.out _ _ HXn (fun hHeld => ?_)
          clear hK K
          refine norm_ (a' := ?_) ?_ ?_
          rotate_left
          · show Act.put _ (some 22) _ = _
            simp only [Act.put, List.setIfInBounds_toArray, List.set_cons_zero, List.set_cons_succ, i64_w, i32_w]
            rfl
          refine pure_ (i := 20) (N := some 23) (v := ?_) (a' := ?_) #[true, true, true, true, true, true, true, true, true, true, true, true, true, true, true, true, true, true, true, true, true, false, false, false, false, false] rfl rfl (any_of HT_.out (by kernel_rfl)) (fun _ _ _ h => h) (Or.inl ⟨by rfl, ?_⟩) ?_ ?_
          rotate_left
          · intro w'
            go_simp
            with_reducible rfl
          rotate_left
          · simp only [Act.put, List.setIfInBounds_toArray, List.set_cons_zero, List.set_cons_succ, i64_w, i32_w]
            rfl
          refine pure_ (i := 21) (N := some 24) (v := ?_) (a' := ?_) #[true, true, true, true, true, true, true, true, true, true, true, true, true, true, true, true, true, true, true, true, true, true, false, false, false, false] rfl rfl (any_of HT_.out (by kernel_rfl)) (fun _ _ _ h => h) (Or.inl ⟨by rfl, ?_⟩) ?_ ?_
          rotate_left
          · intro w'
            go_simp
            with_reducible rfl
          rotate_left
          · simp only [Act.put, List.setIfInBounds_toArray, List.set_cons_zero, List.set_cons_succ, i64_w, i32_w]
            rfl
          refine take_ (i := 22) (N := some 25) (v := ?_) (a' := ?_) #[true, true, true, true, true, true, true, true, true, true, true, true, true, true, true, true, true, true, true, true, true, true, true, false, false, false] rfl rfl (take_ofW HT_.out HW_.out (by kernel_rfl)) (fun _ _ _ h => h) (Or.inl ⟨by rfl, ?_⟩) hHeld ?_ ?_
          rotate_left
          · intro w' hS_
            refine run_load_box 57 (.tmp 1) ?_ g ?_ _ _ _ hS_ Try.underlying57 rfl HLL.out
            rfl
            rfl
          rotate_left
          · simp only [Act.put, List.setIfInBounds_toArray, List.set_cons_zero, List.set_cons_succ, i64_w, i32_w]
            rfl
          refine one_ (i := 23) (N := some 26) #[true, true, true, true, true, true, true, true, true, true, true, true, true, true, true, true, true, true, true, true, true, true, true, true, false, false] rfl rfl (one_of HT_.out (by kernel_rfl)) (by decide) (fun K hK => ?_)
          refine goes_ Try.func87 (by kernel_rfl) rfl #[.agg (bkL b.addr b.aff b.slots (.slice A b.free.length c) (.slice A' b.attrs.length c')).toArray] (by rfl) rfl rfl (by (try simp only [List.map_toArray, List.map_cons, List.map_nil]); first | done | rfl) ?_
          refine (free_any b HF.out HS.out _ _ ⟨A, c, A', c', rfl, HR1.out.below HZ.out⟩).mono ?_
          rintro e V23 ⟨rfl, hb⟩
          refine ⟨_, rfl, ?_⟩
          have HXn := hHeld.below hb; have HZn := Aside0.mk (below_step HZ.out hb); clear HZ; have HZ := HZn; clear HZn hb
          refine hK.out _ _ HXn (fun hHeld => ?_)
          clear hK K
          refine norm_ (a' := ?_) ?_ ?_
          rotate_left
          · show Act.put _ (some 26) _ = _
            simp only [Act.put, List.setIfInBounds_toArray, List.set_cons_zero, List.set_cons_succ, i64_w, i32_w]
            rfl
          refine pure_ (i := 24) (N := some 27) (v := ?_) (a' := ?_) #[true, true, true, true, true, true, true, true, true, true, true, true, true, true, true, true, true, true, true, true, true, true, true, true, true, false] rfl rfl (any_of HT_.out (by kernel_rfl)) (fun _ _ _ h => h) (Or.inl ⟨by rfl, ?_⟩) ?_ ?_
          rotate_left
          · intro w'
            go_simp
            with_reducible rfl
          rotate_left
          · simp only [Act.put, List.setIfInBounds_toArray, List.set_cons_zero, List.set_cons_succ, i64_w, i32_w]
            rfl
          refine pure_ (i := 25) (N := some 2) (v := ?_) (a' := ?_) #[true, true, true, true, true, true, true, true, true, true, true, true, true, true, true, true, true, true, true, true, true, true, true, true, true, true] rfl rfl (any_of HT_.out (by kernel_rfl)) (fun _ _ _ h => h) (Or.inl ⟨by rfl, ?_⟩) ?_ ?_
          rotate_left
          · intro w'
            go_simp
            with_reducible rfl
          rotate_left
          · simp only [Act.put, List.setIfInBounds_toArray, List.set_cons_zero, List.set_cons_succ, i64_w, i32_w]
            rfl
          refine done_ (done_of HT_.out (by kernel_rfl)) ?_
          try go_wp2
          go_ret
          refine ⟨?_, HB.out.trans (HZ.out.mono HB.out.size)⟩
          rw [HV.out]; rfl
      · have h3b : decide ((b.attrs.length : Int) ≤ 64) = false := by simp; omega
        have HV := Aside0.mk (show rightB b = false by unfold rightB; rw [h1, h2, decide_eq_false h3]; rfl)
        refine start_ (n := 26) (S := fun w' => Box w' g (bkL b.addr b.aff b.slots (.slice A b.free.length c) (.slice A' b.attrs.length c')) 57) (ds := []) #[false, false, false, false, false, false, false, false, false, false, false, false, false, false, false, false, false, false, false, false, false, false, false, false, false, false] (by kernel_rfl) rfl rfl HX.out (fun hHeld => ?_); refine with_tabW bright1.tab1 bright1.bits1 (fun HT_ HW_ => ?_)
        refine pure_ (i := 0) (N := some 3) (v := ?_) (a' := ?_) #[true, false, false, false, false, false, false, false, false, false, false, false, false, false, false, false, false, false, false, false, false, false, false, false, false, false] rfl rfl (any_of HT_.out (by kernel_rfl)) (fun _ _ _ h => h) (Or.inl ⟨by rfl, ?_⟩) ?_ ?_
        rotate_left
        · intro w'
          go_simp
          with_reducible rfl
        rotate_left
        · simp only [Act.put, List.setIfInBounds_toArray, List.set_cons_zero, List.set_cons_succ, i64_w, i32_w]
          rfl
        refine take_ (i := 1) (N := some 4) (v := ?_) (a' := ?_) #[true, true, false, false, false, false, false, false, false, false, false, false, false, false, false, false, false, false, false, false, false, false, false, false, false, false] rfl rfl (take_ofW HT_.out HW_.out (by kernel_rfl)) (fun _ _ _ h => h) (Or.inl ⟨by rfl, ?_⟩) hHeld ?_ ?_
        rotate_left
        · intro w' hS_
          have s0 := hS_.cell 0 _ rfl
          go_simp
          with_reducible rfl
        rotate_left
        · simp only [Act.put, List.setIfInBounds_toArray, List.set_cons_zero, List.set_cons_succ, i64_w, i32_w]
          rfl
        refine pure_ (i := 3) (N := some 6) (v := ?_) (a' := ?_) #[true, true, false, true, false, false, false, false, false, false, false, false, false, false, false, false, false, false, false, false, false, false, false, false, false, false] rfl rfl (any_of HT_.out (by kernel_rfl)) (fun _ _ _ h => h) (Or.inl ⟨by rfl, ?_⟩) ?_ ?_
        rotate_left
        · intro w'
          go_simp
          with_reducible rfl
        rotate_left
        · simp only [Act.put, List.setIfInBounds_toArray, List.set_cons_zero, List.set_cons_succ, i64_w, i32_w]
          rfl
        refine take_ (i := 4) (N := some 7) (v := ?_) (a' := ?_) #[true, true, false, true, true, false, false, false, false, false, false, false, false, false, false, false, false, false, false, false, false, false, false, false, false, false] rfl rfl (take_ofW HT_.out HW_.out (by kernel_rfl)) (fun _ _ _ h => h) (Or.inl ⟨by rfl, ?_⟩) hHeld ?_ ?_
        rotate_left
        · intro w' hS_
          have s0 := hS_.cell 0 _ rfl
          go_simp
          with_reducible rfl
        rotate_left
        · simp only [Act.put, List.setIfInBounds_toArray, List.set_cons_zero, List.set_cons_succ, i64_w, i32_w]
          rfl
        refine one_ (i := 2) (N := some 5) #[true, true, true, true, true, false, false, false, false, false, false, false, false, false, false, false, false, false, false, false, false, false, false, false, false, false] rfl rfl (one_of HT_.out (by kernel_rfl)) (by decide) (fun K hK => ?_)
        refine goes_ Try.func80 (by kernel_rfl) rfl #[.int .u32 b.addr] (by rfl) rfl rfl (by (try simp only [List.map_toArray, List.map_cons, List.map_nil]); first | done | rfl) ?_
        refine (block_first.calls _ _ _ HF1.out).mono ?_
        rintro e V2 ⟨rfl, hb⟩
        refine ⟨_, rfl, ?_⟩
        have HXn := hHeld.below hb; have HZn := Aside0.mk (below_step HZ.out hb); clear HZ; have HZ := HZn; clear HZn hb
        refine hK.out _ _ HXn (fun hHeld => ?_)
        clear hK K
        refine norm_ (a' := ?_) ?_ ?_
        rotate_left
        · show Act.put _ (some 5) _ = _
          simp only [Act.put, List.setIfInBounds_toArray, List.set_cons_zero, List.set_cons_succ, i64_w, i32_w]
          rfl
        refine pure_ (i := 5) (N := some 8) (v := ?_) (a' := ?_) #[true, true, true, true, true, true, false, false, false, false, false, false, false, false, false, false, false, false, false, false, false, false, false, false, false, false] rfl rfl (any_of HT_.out (by kernel_rfl)) (fun _ _ _ h => h) (Or.inl ⟨by rfl, ?_⟩) ?_ ?_
        rotate_left
        · intro w'
          go_simp
          with_reducible rfl
        rotate_left
        · simp only [Act.put, List.setIfInBounds_toArray, List.set_cons_zero, List.set_cons_succ, i64_w, i32_w]
          rfl
        refine pure_ (i := 6) (N := some 9) (v := ?_) (a' := ?_) #[true, true, true, true, true, true, true, false, false, false, false, false, false, false, false, false, false, false, false, false, false, false, false, false, false, false] rfl rfl (any_of HT_.out (by kernel_rfl)) (fun _ _ _ h => h) (Or.inl ⟨by rfl, ?_⟩) ?_ ?_
        rotate_left
        · intro w'
          go_simp
          with_reducible rfl
        rotate_left
        · simp only [Act.put, List.setIfInBounds_toArray, List.set_cons_zero, List.set_cons_succ, i64_w, i32_w]
          rfl
        refine pure_ (i := 7) (N := some 10) (v := ?_) (a' := ?_) #[true, true, true, true, true, true, true, true, false, false, false, false, false, false, false, false, false, false, false, false, false, false, false, false, false, false] rfl rfl (any_of HT_.out (by kernel_rfl)) (fun _ _ _ h => h) (Or.inl ⟨by rfl, ?_⟩) ?_ ?_
        rotate_left
        · intro w'
          go_simp
          with_reducible rfl
        rotate_left
        · simp only [Act.put, List.setIfInBounds_toArray, List.set_cons_zero, List.set_cons_succ, i64_w, i32_w]
          rfl
        refine take_ (i := 8) (N := some 11) (v := ?_) (a' := ?_) #[true, true, true, true, true, true, true, true, true, false, false, false, false, false, false, false, false, false, false, false, false, false, false, false, false, false] rfl rfl (take_ofW HT_.out HW_.out (by kernel_rfl)) (fun _ _ _ h => h) (Or.inl ⟨by rfl, ?_⟩) hHeld ?_ ?_
        rotate_left
        · intro w' hS_
          have s0 := hS_.cell 1 _ rfl
          go_simp
          with_reducible rfl
        rotate_left
        · simp only [Act.put, List.setIfInBounds_toArray, List.set_cons_zero, List.set_cons_succ, i64_w, i32_w]
          rfl
        refine one_ (i := 9) (N := some 12) #[true, true, true, true, true, true, true, true, true, true, false, false, false, false, false, false, false, false, false, false, false, false, false, false, false, false] rfl rfl (one_of HT_.out (by kernel_rfl)) (by decide) (fun K hK => ?_)
        refine goes_ Try.func79 (by kernel_rfl) rfl #[.string b.aff] (by rfl) rfl rfl (by (try simp only [List.map_toArray, List.map_cons, List.map_nil]); first | done | rfl) ?_
        refine (block_owner.calls _ _ _ HF2.out).mono ?_
        rintro e V9 ⟨rfl, hb⟩
        refine ⟨_, rfl, ?_⟩
        have HXn := hHeld.below hb; have HZn := Aside0.mk (below_step HZ.out hb); clear HZ; have HZ := HZn; clear HZn hb
        refine hK.out _ _ HXn (fun hHeld => ?_)
        clear hK K
        refine norm_ (a' := ?_) ?_ ?_
        rotate_left
        · show Act.put _ (some 12) _ = _
          simp only [Act.put, List.setIfInBounds_toArray, List.set_cons_zero, List.set_cons_succ, i64_w, i32_w]
          rfl
        refine pure_ (i := 10) (N := some 13) (v := ?_) (a' := ?_) #[true, true, true, true, true, true, true, true, true, true, true, false, false, false, false, false, false, false, false, false, false, false, false, false, false, false] rfl rfl (any_of HT_.out (by kernel_rfl)) (fun _ _ _ h => h) (Or.inl ⟨by rfl, ?_⟩) ?_ ?_
        rotate_left
        · intro w'
          go_simp
          with_reducible rfl
        rotate_left
        · simp only [Act.put, List.setIfInBounds_toArray, List.set_cons_zero, List.set_cons_succ, i64_w, i32_w]
          rfl
        refine pure_ (i := 11) (N := some 14) (v := ?_) (a' := ?_) #[true, true, true, true, true, true, true, true, true, true, true, true, false, false, false, false, false, false, false, false, false, false, false, false, false, false] rfl rfl (any_of HT_.out (by kernel_rfl)) (fun _ _ _ h => h) (Or.inl ⟨by rfl, ?_⟩) ?_ ?_
        rotate_left
        · intro w'
          go_simp
          with_reducible rfl
        rotate_left
        · simp only [Act.put, List.setIfInBounds_toArray, List.set_cons_zero, List.set_cons_succ, i64_w, i32_w]
          rfl
        refine pure_ (i := 12) (N := some 15) (v := ?_) (a' := ?_) #[true, true, true, true, true, true, true, true, true, true, true, true, true, false, false, false, false, false, false, false, false, false, false, false, false, false] rfl rfl (any_of HT_.out (by kernel_rfl)) (fun _ _ _ h => h) (Or.inl ⟨by rfl, ?_⟩) ?_ ?_
        rotate_left
        · intro w'
          go_simp
          with_reducible rfl
        rotate_left
        · simp only [Act.put, List.setIfInBounds_toArray, List.set_cons_zero, List.set_cons_succ, i64_w, i32_w]
          rfl
        refine take_ (i := 13) (N := some 16) (v := ?_) (a' := ?_) #[true, true, true, true, true, true, true, true, true, true, true, true, true, true, false, false, false, false, false, false, false, false, false, false, false, false] rfl rfl (take_ofW HT_.out HW_.out (by kernel_rfl)) (fun _ _ _ h => h) (Or.inl ⟨by rfl, ?_⟩) hHeld ?_ ?_
        rotate_left
        · intro w' hS_
          have s0 := hS_.cell 67 _ (bkL_67 _ _ _ _ _ HL.out)
          go_simp
          with_reducible rfl
        rotate_left
        · simp only [Act.put, List.setIfInBounds_toArray, List.set_cons_zero, List.set_cons_succ, i64_w, i32_w]
          rfl
        refine pure_ (i := 14) (N := some 17) (v := ?_) (a' := ?_) #[true, true, true, true, true, true, true, true, true, true, true, true, true, true, true, false, false, false, false, false, false, false, false, false, false, false] rfl rfl (any_of HT_.out (by kernel_rfl)) (fun _ _ _ h => h) (Or.inl ⟨by rfl, ?_⟩) ?_ ?_
        rotate_left
        · intro w'
          go_simp
          with_reducible rfl
        rotate_left
        · simp only [Act.put, List.setIfInBounds_toArray, List.set_cons_zero, List.set_cons_succ, i64_w, i32_w]
          rfl
        refine pure_ (i := 15) (N := some 18) (v := ?_) (a' := ?_) #[true, true, true, true, true, true, true, true, true, true, true, true, true, true, true, true, false, false, false, false, false, false, false, false, false, false] rfl rfl (any_of HT_.out (by kernel_rfl)) (fun _ _ _ h => h) (Or.inl ⟨by rfl, ?_⟩) ?_ ?_
        rotate_left
        · intro w'
          go_simp
          with_reducible rfl
        rotate_left
        · simp only [Act.put, List.setIfInBounds_toArray, List.set_cons_zero, List.set_cons_succ, i64_w, i32_w]
          rfl
        refine pure_ (i := 16) (N := some 19) (v := ?_) (a' := ?_) #[true, true, true, true, true, true, true, true, true, true, true, true, true, true, true, true, true, false, false, false, false, false, false, false, false, false] rfl rfl (any_of HT_.out (by kernel_rfl)) (fun _ _ _ h => h) (Or.inl ⟨by rfl, ?_⟩) ?_ ?_
        rotate_left
        · intro w'
          go_simp
          with_reducible rfl
        rotate_left
        · simp only [Act.put, List.setIfInBounds_toArray, List.set_cons_zero, List.set_cons_succ, i64_w, i32_w]
          rfl
        refine pure_ (i := 17) (N := some 20) (v := ?_) (a' := ?_) #[true, true, true, true, true, true, true, true, true, true, true, true, true, true, true, true, true, true, false, false, false, false, false, false, false, false] rfl rfl (any_of HT_.out (by kernel_rfl)) (fun _ _ _ h => h) (Or.inl ⟨by rfl, ?_⟩) ?_ ?_
        rotate_left
        · intro w'
          go_simp
          with_reducible rfl
        rotate_left
        · simp only [Act.put, List.setIfInBounds_toArray, List.set_cons_zero, List.set_cons_succ, i64_w, i32_w]
          rfl
        refine pure_ (i := 18) (N := some 21) (v := undef) (a' := ?_) #[true, true, true, true, true, true, true, true, true, true, true, true, true, true, true, true, true, true, true, false, false, false, false, false, false, false] rfl rfl (any_of HT_.out (by kernel_rfl)) (fun _ _ _ h => h) (Or.inr ⟨by rfl, rfl⟩) ?_ ?_
        rotate_left
        · simp only [Act.put, List.setIfInBounds_toArray, List.set_cons_zero, List.set_cons_succ, i64_w, i32_w]
          rfl
        refine pure_ (i := 19) (N := some 22) (v := undef) (a' := ?_) #[true, true, true, true, true, true, true, true, true, true, true, true, true, true, true, true, true, true, true, true, false, false, false, false, false, false] rfl rfl (any_of HT_.out (by kernel_rfl)) (fun _ _ _ h => h) (Or.inr ⟨by rfl, rfl⟩) ?_ ?_
        rotate_left
        · simp only [Act.put, List.setIfInBounds_toArray, List.set_cons_zero, List.set_cons_succ, i64_w, i32_w]
          rfl
        refine pure_ (i := 20) (N := some 23) (v := ?_) (a' := ?_) #[true, true, true, true, true, true, true, true, true, true, true, true, true, true, true, true, true, true, true, true, true, false, false, false, false, false] rfl rfl (any_of HT_.out (by kernel_rfl)) (fun _ _ _ h => h) (Or.inl ⟨by rfl, ?_⟩) ?_ ?_
        rotate_left
        · intro w'
          go_simp
          with_reducible rfl
        rotate_left
        · simp only [Act.put, List.setIfInBounds_toArray, List.set_cons_zero, List.set_cons_succ, i64_w, i32_w]
          rfl
        refine pure_ (i := 21) (N := some 24) (v := ?_) (a' := ?_) #[true, true, true, true, true, true, true, true, true, true, true, true, true, true, true, true, true, true, true, true, true, true, false, false, false, false] rfl rfl (any_of HT_.out (by kernel_rfl)) (fun _ _ _ h => h) (Or.inl ⟨by rfl, ?_⟩) ?_ ?_
        rotate_left
        · intro w'
          go_simp
          with_reducible rfl
        rotate_left
        · simp only [Act.put, List.setIfInBounds_toArray, List.set_cons_zero, List.set_cons_succ, i64_w, i32_w]
          rfl
        refine pure_ (i := 22) (N := some 25) (v := undef) (a' := ?_) #[true, true, true, true, true, true, true, true, true, true, true, true, true, true, true, true, true, true, true, true, true, true, true, false, false, false] rfl rfl (any_of HT_.out (by kernel_rfl)) (fun _ _ _ h => h) (Or.inr ⟨by rfl, rfl⟩) ?_ ?_
        rotate_left
        · simp only [Act.put, List.setIfInBounds_toArray, List.set_cons_zero, List.set_cons_succ, i64_w, i32_w]
          rfl
        refine pure_ (i := 23) (N := some 26) (v := undef) (a' := ?_) #[true, true, true, true, true, true, true, true, true, true, true, true, true, true, true, true, true, true, true, true, true, true, true, true, false, false] rfl rfl (any_of HT_.out (by kernel_rfl)) (fun _ _ _ h => h) (Or.inr ⟨by rfl, rfl⟩) ?_ ?_
        rotate_left
        · simp only [Act.put, List.setIfInBounds_toArray, List.set_cons_zero, List.set_cons_succ, i64_w, i32_w]
          rfl
        refine pure_ (i := 24) (N := some 27) (v := ?_) (a' := ?_) #[true, true, true, true, true, true, true, true, true, true, true, true, true, true, true, true, true, true, true, true, true, true, true, true, true, false] rfl rfl (any_of HT_.out (by kernel_rfl)) (fun _ _ _ h => h) (Or.inl ⟨by rfl, ?_⟩) ?_ ?_
        rotate_left
        · intro w'
          go_simp
          with_reducible rfl
        rotate_left
        · simp only [Act.put, List.setIfInBounds_toArray, List.set_cons_zero, List.set_cons_succ, i64_w, i32_w]
          rfl
        refine pure_ (i := 25) (N := some 2) (v := ?_) (a' := ?_) #[true, true, true, true, true, true, true, true, true, true, true, true, true, true, true, true, true, true, true, true, true, true, true, true, true, true] rfl rfl (any_of HT_.out (by kernel_rfl)) (fun _ _ _ h => h) (Or.inl ⟨by rfl, ?_⟩) ?_ ?_
        rotate_left
        · intro w'
          go_simp
          with_reducible rfl
        rotate_left
        · simp only [Act.put, List.setIfInBounds_toArray, List.set_cons_zero, List.set_cons_succ, i64_w, i32_w]
          rfl
        refine done_ (done_of HT_.out (by kernel_rfl)) ?_
        try go_wp2
        go_ret
        refine ⟨?_, HB.out.trans (HZ.out.mono HB.out.size)⟩
        rw [HV.out]; rfl
end Go.Proofs.Ytemhalnhbgkbcaa.V
end

-- BClone
section
/- slices.Clone of bytes, and of attributes. -/
namespace Go.Proofs.Ytemhalnhbgkbcaa.V
open Go.RowKit Go.Proofs.YtemhalnhbgkbcaaW.PrintWords Go.Proofs.YtemhalnhbgkbcaaW.PrintLast Go.Proofs.YtemhalnhbgkbcaaW.PrintMore
set_option linter.unusedVariables false
set_option linter.unusedSimpArgs false

theorem info_u8 : (Try.prog.info? 5).map (fun i => (i.zero, i.size, i.bytes)) = some (some (.int .u8 0), 1, 1) := by kernel_rfl
theorem info_at : (Try.prog.info? 85).map (fun i => (i.zero, i.size, i.bytes)) = some (some (.agg #[.string ⟨#[]⟩, .string ⟨#[]⟩]), 2, 32) := by kernel_rfl
theorem C_none_nil {α : Type} {d : Kd α} {w : World} {xs : List α} (h : Kd.C d w none xs.length xs) : xs = [] := by
  rcases Nat.eq_zero_or_pos xs.length with h0 | h0
  · exact List.eq_nil_of_length_eq_zero h0
  · obtain ⟨ad, he, _⟩ := h.2.2 h0
    cases he
set_option maxHeartbeats 2000000 in
set_option maxRecDepth 100000 in
theorem cloneU8 (xs : List Int) (A : Option Addr) (c : Nat) (w : World) (hr : Kd.C (Kd.int .u8) w A xs.length xs) (hc : xs.length ≤ c) (hl : xs.length ≤ 4294967296) :
    Calls Try.prog 91 #[.slice A xs.length c] w fun e w' => ∃ v, e = .returned v ∧ Kd.R (Kd.int .u8) 5 w' w.heap.size (fun _ => True) v xs ∧ Below w.heap.size w w' := by
  have q48 : ∀ (w : World) (a : Option Addr) (n c n' c' : Nat), (binOp .eql 48 (.slice a n c) (.slice none n' c')).run Try.prog w = .ok (.bool a.isNone) w := fun w a n c n' c' => Lib.run_eql_slice_nil w _ _ a n c n' c' Try.underlying48
  cases A with
  | none =>
    obtain rfl := C_none_nil hr
    clear hr
    go_enter Try.func91, Try.ntmps91
    go_wp2
    go_ret
    exact ⟨_, rfl, Kd.R_nil _ _ _ _ _, Below.refl _ _⟩
  | some ad =>
    have HR := Aside0.mk hr
    have HL := Aside0.mk hl
    clear hr hl
    go_enter Try.func91, Try.ntmps91
    go_wp2_with (first
      | ((with_reducible refine gate_dst (N := 5) rfl ?_); refine Kd.R_lit (Kd.int .u8) w.heap.size 5 (w0 := w) ?hg (N := 5) ?hd (xs := ([] : List Int)) (inner := []) (ok := fun _ => True) (okp := fun _ => True) ?hr ?hp (fun _ hk => hk) trivial (Below.refl _ _) (Nat.le_refl _) (by simp) ?_; (case hd => rfl); (case hg => rfl); (case hr => first | (go_simp; done) | (go_simp; rfl)); (case hp => exact (Reps.none _ _)); intro v1 w1 ho1 hb1 hg1 hn1; have HO1 := Aside0.mk ho1; have HB1 := Aside0.mk hb1; clear ho1 hb1 hg1 hn1)
      | ((with_reducible refine gate_builtin (b := .append) (xs := #[.tmp 5, .tmp 6]) rfl ?_); at_builtin; refine Kd.R_append_rows (Kd.int .u8) (w0 := w) w.heap.size rfl (.tmp 5) (.tmp 6) 48 5 (.int .u8 0) 1 rfl Try.underlying48 info_u8 rfl (by decide) (by omega) _ [] xs (some ad) xs.length c (fun _ => True) (fun _ => False) rfl rfl HO1.out (Kd.C_below HR.out HB1.out) (fun x cs h => h) (fun _ h => h.elim) (fun _ _ => trivial) HB1.out HB1.out.size (by have := HL.out; simp; omega) ?_; intro v2 w2 ho2 hb2 hg2 hat2))
    go_ret
    exact ⟨_, rfl, ho2, hb2⟩
set_option maxHeartbeats 2000000 in
set_option maxRecDepth 100000 in
theorem cloneAt (xs : List At) (A : Option Addr) (c : Nat) (w : World) (hr : Kd.C k85 w A xs.length xs) (hc : xs.length ≤ c) (hl : xs.length ≤ 4294967296) :
    Calls Try.prog 109 #[.slice A xs.length c] w fun e w' => ∃ v, e = .returned v ∧ Kd.R k85 85 w' w.heap.size (fun _ => True) v xs ∧ Below w.heap.size w w' := by
  have q48 : ∀ (w : World) (a : Option Addr) (n c n' c' : Nat), (binOp .eql 55 (.slice a n c) (.slice none n' c')).run Try.prog w = .ok (.bool a.isNone) w := fun w a n c n' c' => Lib.run_eql_slice_nil w _ _ a n c n' c' Try.underlying55
  cases A with
  | none =>
    obtain rfl := C_none_nil hr
    clear hr
    go_enter Try.func109, Try.ntmps109
    go_wp2
    go_ret
    exact ⟨_, rfl, Kd.R_nil _ _ _ _ _, Below.refl _ _⟩
  | some ad =>
    have HR := Aside0.mk hr
    have HL := Aside0.mk hl
    clear hr hl
    go_enter Try.func109, Try.ntmps109
    go_wp2_with (first
      | ((with_reducible refine gate_dst (N := 5) rfl ?_); refine Kd.R_lit k85 w.heap.size 85 (w0 := w) ?hg (N := 5) ?hd (xs := ([] : List At)) (inner := []) (ok := fun _ => True) (okp := fun _ => True) ?hr ?hp (fun _ hk => hk) trivial (Below.refl _ _) (Nat.le_refl _) (by simp) ?_; (case hd => rfl); (case hg => rfl); (case hr => first | (go_simp; done) | (go_simp; rfl)); (case hp => exact (Reps.none _ _)); intro v1 w1 ho1 hb1 hg1 hn1; have HO1 := Aside0.mk ho1; have HB1 := Aside0.mk hb1; clear ho1 hb1 hg1 hn1)
      | ((with_reducible refine gate_builtin (b := .append) (xs := #[.tmp 5, .tmp 6]) rfl ?_); at_builtin; refine Kd.R_append_rows k85 (w0 := w) w.heap.size rfl (.tmp 5) (.tmp 6) 55 85 (.agg #[.string ⟨#[]⟩, .string ⟨#[]⟩]) 32 rfl Try.underlying55 info_at rfl (by decide) (by omega) _ [] xs (some ad) xs.length c (fun _ => True) (fun _ => False) rfl rfl HO1.out (Kd.C_below HR.out HB1.out) (fun x cs h => by rw [k85_open h]; exact k85_mkM _ _ _ _) (fun _ h => h.elim) (fun _ _ => trivial) HB1.out HB1.out.size (by have := HL.out; simp; omega) ?_; intro v2 w2 ho2 hb2 hg2 hat2))
    go_ret
    exact ⟨_, rfl, ho2, hb2⟩
end Go.Proofs.Ytemhalnhbgkbcaa.V
end

-- BCopied
section
/- block.copied: a block that shares nothing. -/
namespace Go.Proofs.Ytemhalnhbgkbcaa.V
open Go.RowKit Go.Proofs.YtemhalnhbgkbcaaW.PrintWords Go.Proofs.YtemhalnhbgkbcaaW.PrintLast Go.Proofs.YtemhalnhbgkbcaaW.PrintMore
set_option linter.unusedVariables false
set_option linter.unusedSimpArgs false

theorem R_box_grown {α : Type} {d : Kd α} {e : Nat} {W W1 : World} {base g t : Nat} {ok : Nat → Prop} {v : Value} {xs : List α} {cs : List Value} (h : Kd.R d e W base ok v xs) (hb : Box W g cs t) (ht : ∀ q, q ∈ e :: d.E → q ≠ t) (hg : W.grownBy W1 (some g)) : Kd.R d e W1 base ok v xs :=
  Kd.R_mono (Kd.R_grown (Kd.R_types h hb ht) hg (fun k hk he => hk.2 (Option.some.inj he))) (fun _ hk => hk.1)
/-- A block whose rows are the call's own. -/
def BkO (W : World) (base : Nat) (v : Value) (b : Bk) : Prop := b.slots.length = 64 ∧ ∃ vf va, v = .agg (bkL b.addr b.aff b.slots vf va).toArray ∧ Kd.R (Kd.int .u8) 5 W base (fun _ => True) vf b.free ∧ Kd.R k85 85 W base (fun _ => True) va b.attrs
theorem BkO.below {W W1 : World} {base : Nat} {v : Value} {b : Bk} (h : BkO W base v b) (hb : Below W.heap.size W W1) : BkO W1 base v b := by
  obtain ⟨hl, vf, va, rfl, hf, ha⟩ := h
  exact ⟨hl, vf, va, rfl, Kd.R_below hf hb, Kd.R_below ha hb⟩
theorem BkO.lower {W : World} {base base' : Nat} {v : Value} {b : Bk} (h : BkO W base v b) (hb : base' ≤ base) : BkO W base' v b := by
  obtain ⟨hl, vf, va, rfl, hf, ha⟩ := h
  exact ⟨hl, vf, va, rfl, Kd.R_lower hf hb, Kd.R_lower ha hb⟩
/-- The zero block. -/
def zbk : Bk := ⟨0, ⟨#[]⟩, List.replicate 64 0, [], []⟩
def zeroL : List Value := bkL 0 ⟨#[]⟩ (List.replicate 64 0) (.slice none 0 0) (.slice none 0 0)
theorem zero57 (w : World) : (zeroValue 57).run Try.prog w = .ok (.agg zeroL.toArray) w := by kernel_rfl
theorem zbk_O (W : World) (base : Nat) : BkO W base (.agg zeroL.toArray) zbk := ⟨rfl, _, _, rfl, Kd.R_nil _ _ _ _ _, Kd.R_nil _ _ _ _ _⟩
theorem size57 (l : List Value) (h : l.length = 68) : (Try.prog.info? 57).map (·.size) = some l.length := by rw [h]; kernel_rfl
def bcopied1.T1 : Bool × List (List Nat × List Nat) := (true, [([], []), ([0], [0]), ([1], [1]), ([], []), ([3], [3]), ([4, 2], [4]), ([0, 1, 2, 3, 4], []), ([6, 2, 5, 0, 1, 2, 3, 4], [2, 6]), ([0, 1, 2, 3, 4, 5, 6, 7], []), ([8, 5, 7, 0, 1, 2, 3, 4, 5, 6, 7], [5, 8])])
def bcopied1.B1 : List Nat := [0, 1, 3, 0, 8, 31, 31, 127, 255, 511]
theorem bcopied1.tab1 : rtab .any (opsOf Try.f89 1) = bcopied1.T1 := by kernel_rfl
theorem bcopied1.bits1 : waitsOk bcopied1.T1.2 bcopied1.B1 = true := by kernel_rfl
set_option maxHeartbeats 4000000 in
set_option maxRecDepth 100000 in
theorem copied_any (b : Bk) (hf : b.free.length ≤ 4294967296) (ha : b.attrs.length ≤ 4294967296) (v : Value) (w : World) (h : BkV w v b) :
    Calls Try.prog 89 #[v] w fun e w' => ∃ v', e = .returned v' ∧ BkO w' w.heap.size v' b ∧ Below w.heap.size w w' := by
  obtain ⟨A, c, A', c', rfl, hr⟩ := h
  have HL := Aside0.mk hr.l64
  have HR := Aside0.mk hr
  have HF := Aside0.mk hf
  have HA := Aside0.mk ha
  clear hr hf ha
  go_enter Try.func89, Try.ntmps89
  go_wp2_with (first
    | (refine step_box rfl 57 (.tmp 0) rfl _ rfl ?_; intro g W1 hg hbx hb1; have HX1 := Aside0.mk hbx; have HB1 := Aside0.mk hb1; have HG := Aside0.mk hg; clear hbx hb1 hg)
    | (refine step_allocN (some 2) rfl rfl 57 rfl zeroL zero57 ?_; intro g2 W2 hg2 hbx2 hb2))
  have HX := Aside0.mk (show Box W2.drew g _ _ from (show Box W2 g _ _ from HX1.out.below hb2))
  have HY := Aside0.mk (show Box W2.drew g2 _ _ from hbx2)
  have HNE := Aside0.mk (show g ≠ g2 by have := HX1.out.lt; omega)
  have HB := Aside0.mk (below_drew (HB1.out.trans (hb2.mono HB1.out.size)))
  have HG2 := Aside0.mk (show w.heap.size ≤ g2 by have := HB1.out.size; omega)
  have HR2 := Aside0.mk (HR.out.below HB.out)
  have HZ := Aside0.mk (Below.refl W2.drew.heap.size W2.drew)
  clear hbx2 hb2 hg2 HX1 HB1
  refine start_ (n := 10) (S := fun w' => w'.cell? ⟨g, 66, none⟩ = some (.slice A b.free.length c) ∧ w'.cell? ⟨g, 67, none⟩ = some (.slice A' b.attrs.length c')) (ds := [7, 9]) #[false, false, false, false, false, false, false, false, false, false] (by kernel_rfl) rfl rfl ⟨HX.out.cell 66 _ (bkL_66 _ _ _ _ _ HL.out), HX.out.cell 67 _ (bkL_67 _ _ _ _ _ HL.out)⟩ (fun hHeld => ?_); refine with_tabW bcopied1.tab1 bcopied1.bits1 (fun HT_ HW_ => ?_)
  refine pure_ (i := 0) (N := some 3) (v := ?_) (a' := ?_) #[true, false, false, false, false, false, false, false, false, false] rfl rfl (any_of HT_.out (by kernel_rfl)) (fun _ _ _ h => h) (Or.inl ⟨by rfl, ?_⟩) ?_ ?_
  rotate_left
  · intro w'
    go_simp
    with_reducible rfl
  rotate_left
  · simp only [Act.put, List.setIfInBounds_toArray, List.set_cons_zero, List.set_cons_succ, i64_w, i32_w]
    rfl
  refine take_ (i := 1) (N := some 4) (v := ?_) (a' := ?_) #[true, true, false, false, false, false, false, false, false, false] rfl rfl (take_ofW HT_.out HW_.out (by kernel_rfl)) (fun _ _ _ h => h) (Or.inl ⟨by rfl, ?_⟩) hHeld ?_ ?_
  rotate_left
  · intro w' hS_
    obtain ⟨s0, s1⟩ := hS_
    go_simp
    with_reducible rfl
  rotate_left
  · simp only [Act.put, List.setIfInBounds_toArray, List.set_cons_zero, List.set_cons_succ, i64_w, i32_w]
    rfl
  refine pure_ (i := 3) (N := some 6) (v := ?_) (a' := ?_) #[true, true, false, true, false, false, false, false, false, false] rfl rfl (any_of HT_.out (by kernel_rfl)) (fun _ _ _ h => h) (Or.inl ⟨by rfl, ?_⟩) ?_ ?_
  rotate_left
  · intro w'
    go_simp
    with_reducible rfl
  rotate_left
  · simp only [Act.put, List.setIfInBounds_toArray, List.set_cons_zero, List.set_cons_succ, i64_w, i32_w]
    rfl
  refine take_ (i := 4) (N := some 7) (v := ?_) (a' := ?_) #[true, true, false, true, true, false, false, false, false, false] rfl rfl (take_ofW HT_.out HW_.out (by kernel_rfl)) (fun _ _ _ h => h) (Or.inl ⟨by rfl, ?_⟩) hHeld ?_ ?_
  rotate_left
  · intro w' hS_
    obtain ⟨s0, s1⟩ := hS_
    go_simp
    with_reducible rfl
  rotate_left
  · simp only [Act.put, List.setIfInBounds_toArray, List.set_cons_zero, List.set_cons_succ, i64_w, i32_w]
    rfl
  refine one_ (i := 2) (N := some 5) #[true, true, true, true, true, false, false, false, false, false] rfl rfl (one_of HT_.out (by kernel_rfl)) (by decide) (fun K hK => ?_)
  refine goes_ Try.func91 (by kernel_rfl) rfl #[.slice A b.free.length c] (by rfl) rfl rfl (by (try simp only [List.map_toArray, List.map_cons, List.map_nil]); first | done | rfl) ?_
  refine (cloneU8 b.free A c _ (HR2.out.below HZ.out).fr HR.out.fc HF.out).mono ?_
  rintro e V3 ⟨vf, rfl, hrf, hb3⟩
  refine ⟨_, rfl, ?_⟩
  have HZ3 := Aside0.mk (below_step HZ.out hb3); have HRF := Aside0.mk hrf; obtain ⟨Af, cf, rfl⟩ := Kd.R_slice hrf; clear hrf
  refine hK.out _ _ ⟨(HX.out.below HZ3.out).cell 66 _ (bkL_66 _ _ _ _ _ HL.out), (HX.out.below HZ3.out).cell 67 _ (bkL_67 _ _ _ _ _ HL.out)⟩ (fun hHeld => ?_)
  clear hK K
  refine norm_ (a' := ?_) ?_ ?_
  rotate_left
  · show Act.put _ (some 5) _ = _
    simp only [Act.put, List.setIfInBounds_toArray, List.set_cons_zero, List.set_cons_succ, i64_w, i32_w]
    rfl
  refine pure_ (i := 6) (N := some 9) (v := ?_) (a' := ?_) #[true, true, true, true, true, false, true, false, false, false] rfl rfl (any_of HT_.out (by kernel_rfl)) (fun _ _ _ h => h) (Or.inl ⟨by rfl, ?_⟩) ?_ ?_
  rotate_left
  · intro w'
    go_simp
    with_reducible rfl
  rotate_left
  · simp only [Act.put, List.setIfInBounds_toArray, List.set_cons_zero, List.set_cons_succ, i64_w, i32_w]
    rfl
  refine one_ (i := 5) (N := some 8) #[true, true, true, true, true, true, true, false, false, false] rfl rfl (one_of HT_.out (by kernel_rfl)) (by decide) (fun K hK => ?_)
  refine goes_ Try.func109 (by kernel_rfl) rfl #[.slice A' b.attrs.length c'] (by rfl) rfl rfl (by (try simp only [List.map_toArray, List.map_cons, List.map_nil]); first | done | rfl) ?_
  refine (cloneAt b.attrs A' c' _ (HR2.out.below HZ3.out).ar HR.out.ac HA.out).mono ?_
  rintro e V4 ⟨va, rfl, hra, hb4⟩
  refine ⟨_, rfl, ?_⟩
  have HZ4 := Aside0.mk (below_step HZ3.out hb4); have HRA := Aside0.mk hra; have HRF4 := Aside0.mk (Kd.R_below HRF.out hb4); obtain ⟨Aa, ca, rfl⟩ := Kd.R_slice hra; clear hra
  refine hK.out _ _ ⟨(HX.out.below HZ4.out).cell 66 _ (bkL_66 _ _ _ _ _ HL.out), (HX.out.below HZ4.out).cell 67 _ (bkL_67 _ _ _ _ _ HL.out)⟩ (fun hHeld => ?_)
  clear hK K
  refine norm_ (a' := ?_) ?_ ?_
  rotate_left
  · show Act.put _ (some 8) _ = _
    simp only [Act.put, List.setIfInBounds_toArray, List.set_cons_zero, List.set_cons_succ, i64_w, i32_w]
    rfl
  refine last_ (i := 7) (N := none) #[true, true, true, true, true, true, true, true, false, false] rfl rfl (one_of HT_.out (by kernel_rfl)) (by decide) (fun K hK => ?_)
  have hf66 := (HX.out.below HZ4.out).frozen 66; have hc66 := (HX.out.below HZ4.out).cell 66 _ (bkL_66 _ _ _ _ _ HL.out)
  refine skip_ (w1 := ?_) (by rfl) rfl ?_ ?_
  rotate_left
  · go_simp
    rfl
  refine hK.out _ _ ?_
  clear hK K
  refine pure_ (i := 8) (N := some 10) (v := ?_) (a' := ?_) #[true, true, true, true, true, true, true, true, true, false] rfl rfl (any_of HT_.out (by kernel_rfl)) (fun _ _ _ h => h) (Or.inl ⟨by rfl, ?_⟩) ?_ ?_
  rotate_left
  · intro w'
    go_simp
    with_reducible rfl
  rotate_left
  · simp only [Act.put, List.setIfInBounds_toArray, List.set_cons_zero, List.set_cons_succ, i64_w, i32_w]
    rfl
  refine last_ (i := 9) (N := none) #[true, true, true, true, true, true, true, true, true, true] rfl rfl (one_of HT_.out (by kernel_rfl)) (by decide) (fun K hK => ?_)
  have hf67 := (HX.out.below HZ4.out).frozen 67; have hc67 := (HX.out.below HZ4.out).cell 67 _ (bkL_67 _ _ _ _ _ HL.out)
  refine skip_ (w1 := ?_) (by rfl) rfl ?_ ?_
  rotate_left
  · go_simp
    rfl
  refine hK.out _ _ ?_
  clear hK K
  refine done_ (done_of HT_.out (by kernel_rfl)) ?_
  have hx5 := ((HX.out.below HZ4.out).set 66 (.slice Af b.free.length cf)).set 67 (.slice Aa b.attrs.length ca)
  rw [bkL_set_66 _ _ _ _ _ HL.out, bkL_set_67 _ _ _ _ _ HL.out] at hx5
  have hg4 : W2.drew.heap.size ≤ V4.heap.size := HZ4.out.size
  have hrf5 := R_box_grown (R_box_grown (Kd.R_lower HRF4.out HB.out.size) (HX.out.below HZ4.out) (by decide) (setCell_grown V4 g 66 (.slice Af b.free.length cf))) ((HX.out.below HZ4.out).set 66 _) (by decide) (setCell_grown _ g 67 (.slice Aa b.attrs.length ca))
  have hra5 := R_box_grown (R_box_grown (Kd.R_lower HRA.out (Nat.le_trans HB.out.size HZ3.out.size)) (HX.out.below HZ4.out) (by decide) (setCell_grown V4 g 66 (.slice Af b.free.length cf))) ((HX.out.below HZ4.out).set 66 _) (by decide) (setCell_grown _ g 67 (.slice Aa b.attrs.length ca))
  have hy5 := ((HY.out.below HZ4.out).far (p := ⟨g, 66, none⟩) (fun e => HNE.out e.symm) (.slice Af b.free.length cf)).far (p := ⟨g, 67, none⟩) (fun e => HNE.out e.symm) (.slice Aa b.attrs.length ca)
  have hb5 := Below.setCell (Below.setCell (HB.out.trans (HZ4.out.mono HB.out.size)) (p := ⟨g, 66, none⟩) HG.out (.slice Af b.free.length cf)) (p := ⟨g, 67, none⟩) HG.out (.slice Aa b.attrs.length ca)
  generalize (V4.setCell ⟨g, 66, none⟩ (.slice Af b.free.length cf)).setCell ⟨g, 67, none⟩ (.slice Aa b.attrs.length ca) = V5 at hx5 hrf5 hra5 hy5 hb5 ⊢
  have HX5 := Aside0.mk hx5
  have HY5 := Aside0.mk hy5
  have HRF5 := Aside0.mk hrf5
  have HRA5 := Aside0.mk hra5
  have HB5 := Aside0.mk hb5
  have hl68 := bkL_length b.addr b.aff b.slots (.slice Af b.free.length cf) (.slice Aa b.attrs.length ca) HL.out
  have H68 := Aside0.mk hl68
  clear hx5 hrf5 hra5 hy5 hb5 hl68 hHeld
  go_wp2_with (first
    | (refine step_load rfl 57 (.tmp 1) rfl g rfl _ _ _ HX5.out Try.underlying57 rfl 68 (by kernel_rfl) H68.out ?_)
    | (refine step_store rfl 57 (.tmp 2) (.tmp 11) rfl g2 (bkL b.addr b.aff b.slots (.slice Af b.free.length cf) (.slice Aa b.attrs.length ca)) rfl rfl 57 _ HY5.out 68 (by kernel_rfl) H68.out rfl (bkL_one _ _ _ _ _ rfl rfl) ?_; intro V6 HB6 hg6))
  exact bodyPost_ret (results_cell_row rfl _ _ g2 57 _ (0, 0) _ rfl HB6 Try.underlying57 rfl (by simp only [List.size_toArray]; exact size57 _ H68.out)) rfl ⟨_, rfl, ⟨HL.out, _, _, rfl, R_box_grown HRF5.out HY5.out (by decide) hg6, R_box_grown HRA5.out HY5.out (by decide) hg6⟩, HB5.out.grown hg6 HB5.out.size (by intro k hk; cases hk; exact HG2.out)⟩
end Go.Proofs.Ytemhalnhbgkbcaa.V
end

-- BNew
section
/- block.New. -/
namespace Go.Proofs.Ytemhalnhbgkbcaa.V
open Go.RowKit Go.Proofs.YtemhalnhbgkbcaaW.PrintWords Go.Proofs.YtemhalnhbgkbcaaW.PrintLast Go.Proofs.YtemhalnhbgkbcaaW.PrintMore
set_option linter.unusedVariables false
set_option linter.unusedSimpArgs false

def iotaI (n : Nat) : List Int := (List.range n).map (fun i : Nat => (i : Int))
theorem iotaI_succ (n : Nat) : iotaI (n + 1) = iotaI n ++ [(n : Int)] := by simp [iotaI, List.range_succ]
theorem iotaI_length (n : Nat) : (iotaI n).length = n := by simp [iotaI]
def newBk (a : Int) (s : ByteArray) : Bk := ⟨firstI a, s, List.replicate 64 0, iotaI 64, []⟩
theorem built0 : Try.prog.built 57 [] = some zeroL.toArray := by kernel_rfl
theorem built1 (x : Int) (s : ByteArray) : Try.prog.built 57 [(0, .int .u32 x), (1, .string s)] = some (bkL x s (List.replicate 64 0) (.slice none 0 0) (.slice none 0 0)).toArray := by kernel_rfl
theorem zeroL_one : ∀ v ∈ zeroL, v.oneCell' = true := bkL_one _ _ _ _ _ rfl rfl
set_option maxHeartbeats 4000000 in
set_option maxRecDepth 100000 in
theorem new_any (a : Int) (h0 : 0 ≤ a) (h1 : a < 4294967296) (s : ByteArray) (w : World) :
    Calls Try.prog 41 #[.int .u32 a, .string s] w fun e w' => ∃ v, e = .returned (.tuple #[v, .int .i64 (if ownerB s = true then 0 else 1)]) ∧ BkO w' w.heap.size v (if ownerB s = true then newBk a s else zbk) ∧ Below w.heap.size w w' := by
  have HF1 := Aside0.mk (first_f a h0 h1)
  have HF2 := Aside0.mk (owner_f s)
  clear h0 h1
  cases ho : ownerB s with
  | false =>
    rw [ho] at HF2
    clear ho
    go_enter Try.func41, Try.ntmps41
    go_wp2_with (first
      | (refine step_allocN (some 4) rfl rfl 57 rfl zeroL zero57 ?_; intro g4 W1 hg4 hbx1 hb1; have HX1 := Aside0.mk hbx1; have HB1 := Aside0.mk hb1; have HG4 := Aside0.mk hg4; clear hbx1 hb1 hg4)
      | (go_at_call 79; refine (block_owner.calls _ _ _ HF2.out).mono ?_; rintro e W2 ⟨rfl, hb2⟩; have HX2 := Aside0.mk (HX1.out.below hb2); have HB2 := Aside0.mk (HB1.out.trans (hb2.mono HB1.out.size)); clear hb2 HX1 HB1)
      | (refine step_build rfl 57 #[] rfl zeroL built0 ?_)
      | (refine step_store rfl 57 (.tmp 4) (.tmp 11) rfl g4 zeroL rfl rfl 57 _ HX2.out 68 (by kernel_rfl) rfl rfl zeroL_one ?_; intro W3 HB3 hg3))
    exact bodyPost_ret (results_ct rfl _ _ g4 57 _ (0, 0) _ rfl HB3 Try.underlying57 rfl (by simp only [List.size_toArray]; exact size57 _ rfl)) rfl ⟨_, rfl, zbk_O _ _, HB2.out.grown hg3 HB2.out.size (by intro k hk; cases hk; exact HG4.out)⟩
  | true =>
    rw [ho] at HF2
    clear ho
    go_enter Try.func41, Try.ntmps41
    go_wp2_with (first
      | (refine step_allocN (some 4) rfl rfl 57 rfl zeroL zero57 ?_; intro g4 W1 hg4 hbx1 hb1; have HX1 := Aside0.mk hbx1; have HB1 := Aside0.mk hb1; have HG4 := Aside0.mk hg4; clear hbx1 hb1 hg4)
      | (go_at_call 79; refine (block_owner.calls _ _ _ HF2.out).mono ?_; rintro e W2 ⟨rfl, hb2⟩; have HX2 := Aside0.mk (HX1.out.below hb2); have HB2 := Aside0.mk (HB1.out.trans (hb2.mono HB1.out.size)); clear hb2 HX1 HB1)
      | (go_at_call 80; refine (block_first.calls _ _ _ HF1.out).mono ?_; rintro e W3 ⟨rfl, hb3⟩; have HX3 := Aside0.mk (HX2.out.below hb3); have HB3 := Aside0.mk (HB2.out.trans (hb3.mono HB2.out.size)); clear hb3 HX2 HB2)
      | (refine step_build rfl 57 #[(0, .tmp 13), (1, .tmp 14)] rfl (bkL (firstI a) s (List.replicate 64 0) (.slice none 0 0) (.slice none 0 0)) (built1 _ _) ?_)
      | (refine step_allocN (some 6) rfl rfl 57 rfl zeroL zero57 ?_; intro g6 W4 hg6 hbx4 hb4; have HX4 := Aside0.mk (HX3.out.below hb4); have HY4 := Aside0.mk hbx4; have HNE := Aside0.mk (show g4 ≠ g6 by have := HX3.out.lt; omega); have HB4 := Aside0.mk (HB3.out.trans (hb4.mono HB3.out.size)); have HG6 := Aside0.mk (show w.heap.size ≤ g6 by have := HB3.out.size; omega); clear hbx4 hb4 hg6 HX3 HB3)
      | (refine step_store rfl 57 (.tmp 6) (.tmp 15) rfl g6 (bkL (firstI a) s (List.replicate 64 0) (.slice none 0 0) (.slice none 0 0)) rfl rfl 57 _ HY4.out 68 (by kernel_rfl) rfl rfl (bkL_one _ _ _ _ _ rfl rfl) ?_; intro W5 hy5 hg5; have HY5 := Aside0.mk hy5; have HX5 := Aside0.mk (HX4.out.grown hg5 (fun e => HNE.out (Option.some.inj e))); have HB5 := Aside0.mk (HB4.out.grown hg5 HB4.out.size (by intro k hk; cases hk; exact HG6.out)); clear hy5 hg5 HX4 HY4 HB4))
    go_loopw [7, 16] (fun _ i W => ∃ k : Nat, k ≤ 64 ∧ i = .int .i64 k ∧ ∃ vf, Aside0 (Box W g6 (bkL (firstI a) s (List.replicate 64 0) vf (.slice none 0 0)) 57) ∧ Aside0 (Kd.R (Kd.int .u8) 5 W w.heap.size (fun _ => True) vf (iotaI k)) ∧ Aside0 (Box W g4 zeroL 57) ∧ Aside0 (Below w.heap.size w W)) (fun _ i _ => 64 - (intOf i).toNat)
    case atStart => exact ⟨0, by omega, rfl, _, HY5, ⟨Kd.R_nil _ _ _ _ _⟩, HX5, HB5⟩
    case round =>
      clear HY5 HX5 HB5
      obtain ⟨k, hk, rfl, vf, HY, HR, HX, HB⟩ := hrel
      obtain ⟨W, rfl⟩ : ∃ W : World, W = wr := ⟨_, rfl⟩
      by_cases hk2 : k < 64
      · have hkb : decide ((k : Int) < 64) = true := by simp; omega
        have h66 := HY.out.cell 66 _ (bkL_66 _ _ _ _ _ rfl)
        have hlen := iotaI_length k
        go_wp2_with (first | ((with_reducible refine gate_builtin (b := .append) (xs := #[.tmp 20, .tmp 23]) rfl ?_); at_builtin; refine Kd.R_append (Kd.int .u8) (w0 := w) w.heap.size rfl (.tmp 20) (.tmp 23) 48 5 (.int .u8 0) 1 rfl Try.underlying48 info_u8 rfl (by decide) (by omega) vf (iotaI k) (k : Int) [.int .u8 (k : Int)] (fun _ => True) (fun _ => False) rfl rfl rfl (fun _ hk => hk.elim) (fun _ _ => trivial) HR.out HB.out HB.out.size (by omega) ?_; intro v1 w1 ho1 hb1 hg1 hat1; have HY1 := Aside0.mk (HY.out.grown hg1 (HY.out.ne_row HR.out (by decide))); have HX1 := Aside0.mk (HX.out.grown hg1 (HX.out.ne_row HR.out (by decide))); rw [← iotaI_succ] at ho1; have HR1 := Aside0.mk ho1; have HB1 := Aside0.mk hb1; obtain ⟨A1, c1, rfl⟩ := Kd.R_slice ho1; have hc1 := HY1.out.cell 66 _ (bkL_66 _ _ _ _ _ rfl); have hf1 := HY1.out.frozen 66; clear ho1 hb1 hg1 hat1 h66 HY HX HR HB))
        have HY2 := Aside0.mk (show Box (w1.setCell ⟨g6, 66, none⟩ (.slice A1 (iotaI (k + 1)).length c1)) g6 (bkL (firstI a) s (List.replicate 64 0) (.slice A1 (iotaI (k + 1)).length c1) (.slice none 0 0)) 57 by have := HY1.out.set 66 (.slice A1 (iotaI (k + 1)).length c1); rwa [bkL_set_66 _ _ _ _ _ rfl] at this)
        go_roundw
        case rel => exact ⟨k + 1, by omega, by go_num, _, HY2, ⟨R_box_grown HR1.out HY1.out (by decide) (setCell_grown _ _ _ _)⟩, ⟨HX1.out.far (p := ⟨g6, 66, none⟩) HNE.out _⟩, ⟨Below.setCell HB1.out (p := ⟨g6, 66, none⟩) HG6.out _⟩⟩
        case measure => simp [intOf]; omega
      · obtain rfl : k = 64 := by omega
        rw [show ((64 : Nat) : Int) = (64 : Int) from rfl]
        have hkb : decide ((64 : Int) < 64) = false := by decide
        obtain ⟨Af, cf, rfl⟩ := Kd.R_slice HR.out
        go_wp2_with (first
          | (refine step_load rfl 57 (.tmp 6) rfl g6 rfl _ _ _ HY.out Try.underlying57 rfl 68 (by kernel_rfl) rfl ?_)
          | (refine step_store rfl 57 (.tmp 4) (.tmp 27) rfl g4 (bkL (firstI a) s (List.replicate 64 0) (.slice Af (iotaI 64).length cf) (.slice none 0 0)) rfl rfl 57 _ HX.out 68 (by kernel_rfl) rfl rfl (bkL_one _ _ _ _ _ rfl rfl) ?_; intro W6 HB6 hg6))
        exact bodyPost_ret (results_ct rfl _ _ g4 57 _ (0, 0) _ rfl HB6 Try.underlying57 rfl (by simp only [List.size_toArray]; exact size57 _ rfl)) rfl ⟨_, rfl, ⟨rfl, _, _, rfl, R_box_grown HR.out HX.out (by decide) hg6, Kd.R_nil _ _ _ _ _⟩, HB.out.grown hg6 HB.out.size (by intro k hk; cases hk; exact HG4.out)⟩
end Go.Proofs.Ytemhalnhbgkbcaa.V
end

-- BOwn
section
/- block.Own, block.place. -/
namespace Go.Proofs.Ytemhalnhbgkbcaa.V
open Go.RowKit Go.Proofs.YtemhalnhbgkbcaaW.PrintWords Go.Proofs.YtemhalnhbgkbcaaW.PrintLast Go.Proofs.YtemhalnhbgkbcaaW.PrintMore
set_option linter.unusedVariables false
set_option linter.unusedSimpArgs false

def ownBk (b : Bk) (s : ByteArray) : Bk := ⟨b.addr, s, b.slots, b.free, b.attrs⟩
set_option maxHeartbeats 8000000 in
set_option maxRecDepth 100000 in
theorem own_any (b : Bk) (hk : BkOk b) (hfl : b.free.length ≤ 1000) (hal : b.attrs.length ≤ 1000) (s : ByteArray) (v : Value) (w : World) (h : BkV w v b) :
    Calls Try.prog 55 #[v, .string s] w fun e w' => ∃ v', e = .returned (.tuple #[v', .int .i64 (if (rightB b && ownerB s) = true then 0 else 1)]) ∧ BkO w' w.heap.size v' (if (rightB b && ownerB s) = true then ownBk b s else zbk) ∧ Below w.heap.size w w' := by
  obtain ⟨A, c, A', c', rfl, hr⟩ := h
  have HL := Aside0.mk hr.l64
  have HR := Aside0.mk hr
  have HK := Aside0.mk hk
  have HF2 := Aside0.mk (owner_f s)
  have HCP := Aside0.mk (copied_any b (by omega) (by omega))
  have H68 := Aside0.mk (bkL_length b.addr b.aff b.slots (.slice A b.free.length c) (.slice A' b.attrs.length c') hr.l64)
  clear hr hk
  cases hrt : rightB b with
  | false =>
    have HRT := Aside0.mk hrt
    clear hrt
    simp only [Bool.false_and, Bool.false_eq_true, if_false]
    go_enter Try.func55, Try.ntmps55
    go_wp2_with (first
      | (refine step_box rfl 57 (.tmp 0) rfl _ rfl ?_; intro g W1 hg hbx hb1; have HX1 := Aside0.mk hbx; have HB1 := Aside0.mk hb1; clear hbx hb1 hg)
      | (refine step_allocN (some 4) rfl rfl 57 rfl zeroL zero57 ?_; intro g4 W2 hg4 hy2 hb2; have HX2 := Aside0.mk (HX1.out.below hb2); have HY2 := Aside0.mk hy2; have HB2 := Aside0.mk (HB1.out.trans (hb2.mono HB1.out.size)); have HG4 := Aside0.mk (show w.heap.size ≤ g4 by have := HB1.out.size; omega); clear hy2 hb2 hg4 HX1 HB1)
      | ((with_reducible refine gate_dst (N := 6) rfl ?_); refine step_load rfl 57 (.tmp 2) rfl g rfl _ _ _ HX2.out Try.underlying57 rfl 68 (by kernel_rfl) H68.out ?_)
      | (go_at_call 48; refine (right_any' b HK.out _ _ ⟨A, c, A', c', rfl, HR.out.below HB2.out⟩).mono ?_; rintro e W3 ⟨rfl, hb3⟩; rw [HRT.out]; have HY3 := Aside0.mk (HY2.out.below hb3); have HB3 := Aside0.mk (HB2.out.trans (hb3.mono HB2.out.size)); clear hb3)
      | (refine step_build rfl 57 #[] rfl zeroL built0 ?_)
      | (refine step_store rfl 57 (.tmp 4) (.tmp 14) rfl g4 zeroL rfl rfl 57 _ HY3.out 68 (by kernel_rfl) rfl rfl zeroL_one ?_; intro W4 hy4 hg4))
    exact bodyPost_ret (results_ct rfl _ _ g4 57 _ (0, 0) _ rfl hy4 Try.underlying57 rfl (by simp only [List.size_toArray]; exact size57 _ rfl)) rfl ⟨_, rfl, zbk_O _ _, HB3.out.grown hg4 HB3.out.size (by intro k hk; cases hk; exact HG4.out)⟩
  | true =>
    have HRT := Aside0.mk hrt
    clear hrt
    cases ho : ownerB s with
    | false =>
      rw [ho] at HF2
      clear ho
      simp only [Bool.and_false, Bool.false_eq_true, if_false]
      go_enter Try.func55, Try.ntmps55
      go_wp2_with (first
        | (refine step_box rfl 57 (.tmp 0) rfl _ rfl ?_; intro g W1 hg hbx hb1; have HX1 := Aside0.mk hbx; have HB1 := Aside0.mk hb1; clear hbx hb1 hg)
        | (refine step_allocN (some 4) rfl rfl 57 rfl zeroL zero57 ?_; intro g4 W2 hg4 hy2 hb2; have HX2 := Aside0.mk (HX1.out.below hb2); have HY2 := Aside0.mk hy2; have HB2 := Aside0.mk (HB1.out.trans (hb2.mono HB1.out.size)); have HG4 := Aside0.mk (show w.heap.size ≤ g4 by have := HB1.out.size; omega); clear hy2 hb2 hg4 HX1 HB1)
        | ((with_reducible refine gate_dst (N := 6) rfl ?_); refine step_load rfl 57 (.tmp 2) rfl g rfl _ _ _ HX2.out Try.underlying57 rfl 68 (by kernel_rfl) H68.out ?_)
        | (go_at_call 48; refine (right_any' b HK.out _ _ ⟨A, c, A', c', rfl, HR.out.below HB2.out⟩).mono ?_; rintro e W3 ⟨rfl, hb3⟩; rw [HRT.out]; have HY3 := Aside0.mk (HY2.out.below hb3); have HB3 := Aside0.mk (HB2.out.trans (hb3.mono HB2.out.size)); clear hb3)
        | (go_at_call 79; refine (block_owner.calls _ _ _ HF2.out).mono ?_; rintro e W4 ⟨rfl, hb4⟩; have HY4 := Aside0.mk (HY3.out.below hb4); have HB4 := Aside0.mk (HB3.out.trans (hb4.mono HB3.out.size)); clear hb4)
        | (refine step_build rfl 57 #[] rfl zeroL built0 ?_)
        | (refine step_store rfl 57 (.tmp 4) (.tmp 14) rfl g4 zeroL rfl rfl 57 _ HY4.out 68 (by kernel_rfl) rfl rfl zeroL_one ?_; intro W5 hy5 hg5))
      exact bodyPost_ret (results_ct rfl _ _ g4 57 _ (0, 0) _ rfl hy5 Try.underlying57 rfl (by simp only [List.size_toArray]; exact size57 _ rfl)) rfl ⟨_, rfl, zbk_O _ _, HB4.out.grown hg5 HB4.out.size (by intro k hk; cases hk; exact HG4.out)⟩
    | true =>
      rw [ho] at HF2
      clear ho
      simp only [Bool.and_self, if_true]
      go_enter Try.func55, Try.ntmps55
      go_wp2_with (first
        | (refine step_box rfl 57 (.tmp 0) rfl _ rfl ?_; intro g W1 hg hbx hb1; have HX1 := Aside0.mk hbx; have HB1 := Aside0.mk hb1; have HG := Aside0.mk hg; clear hbx hb1 hg)
        | (refine step_allocN (some 4) rfl rfl 57 rfl zeroL zero57 ?_; intro g4 W2 hg4 hy2 hb2; have HX2 := Aside0.mk (HX1.out.below hb2); have HY2 := Aside0.mk hy2; have HB2 := Aside0.mk (HB1.out.trans (hb2.mono HB1.out.size)); have HG4 := Aside0.mk (show w.heap.size ≤ g4 by have := HB1.out.size; omega); have HNE := Aside0.mk (show g ≠ g4 by have := HX1.out.lt; omega); clear hy2 hb2 hg4 HX1 HB1)
        | ((with_reducible refine gate_dst (N := 6) rfl ?_); refine step_load rfl 57 (.tmp 2) rfl g rfl _ _ _ HX2.out Try.underlying57 rfl 68 (by kernel_rfl) H68.out ?_)
        | (go_at_call 48; refine (right_any' b HK.out _ _ ⟨A, c, A', c', rfl, HR.out.below HB2.out⟩).mono ?_; rintro e W3 ⟨rfl, hb3⟩; rw [HRT.out]; have HX3 := Aside0.mk (HX2.out.below hb3); have HY3 := Aside0.mk (HY2.out.below hb3); have HB3 := Aside0.mk (HB2.out.trans (hb3.mono HB2.out.size)); clear hb3 HX2)
        | (go_at_call 79; refine (block_owner.calls _ _ _ HF2.out).mono ?_; rintro e W4 ⟨rfl, hb4⟩; have HX4 := Aside0.mk (HX3.out.below hb4); have HY4 := Aside0.mk (HY3.out.below hb4); have HB4 := Aside0.mk (HB3.out.trans (hb4.mono HB3.out.size)); clear hb4 HX3)
        | ((with_reducible refine gate_dst (N := 15) rfl ?_); refine step_load rfl 57 (.tmp 2) rfl g rfl _ _ _ HX4.out Try.underlying57 rfl 68 (by kernel_rfl) H68.out ?_)
        | (go_at_call 89; refine (HCP.out _ _ ⟨A, c, A', c', rfl, HR.out.below HB4.out⟩).mono ?_; rintro e W5 ⟨v5, rfl, ho5, hb5⟩; obtain ⟨hl5, vf, va, rfl, hf5, ha5⟩ := ho5; have HX5 := Aside0.mk (HX4.out.below hb5); have HY5 := Aside0.mk (HY4.out.below hb5); have HF5 := Aside0.mk (Kd.R_lower hf5 HB4.out.size); have HA5 := Aside0.mk (Kd.R_lower ha5 HB4.out.size); have HB5 := Aside0.mk (HB4.out.trans (hb5.mono HB4.out.size)); obtain ⟨Af, cf, rfl⟩ := Kd.R_slice hf5; obtain ⟨Aa, ca, rfl⟩ := Kd.R_slice ha5; clear hf5 ha5 hb5 HX4 hl5)
        | (refine step_store rfl 57 (.tmp 2) (.tmp 16) rfl g (bkL b.addr b.aff b.slots (.slice Af b.free.length cf) (.slice Aa b.attrs.length ca)) rfl rfl 57 _ HX5.out 68 (by kernel_rfl) (bkL_length _ _ _ _ _ HL.out) (bkL_length _ _ _ _ _ HL.out) (bkL_one _ _ _ _ _ rfl rfl) ?_; intro W6 hx6 hg6; have HX6 := Aside0.mk hx6; have HY6 := Aside0.mk (HY5.out.grown hg6 (fun e => HNE.out (Option.some.inj e).symm)); have HF6 := Aside0.mk (R_box_grown HF5.out HX5.out (by decide) hg6); have HA6 := Aside0.mk (R_box_grown HA5.out HX5.out (by decide) hg6); have HB6 := Aside0.mk (HB5.out.grown hg6 HB5.out.size (by intro k hk; cases hk; exact HG.out)); have hc6 := HX6.out.cell 1 _ rfl; have hf6 := HX6.out.frozen 1; clear hx6 hg6 HX5 HY5 HF5 HA5 HB5)
        | (generalize hW7 : W6.setCell ⟨g, 1, none⟩ (.string s) = W7; have hx7 : Box W7 g (bkL b.addr s b.slots (.slice Af b.free.length cf) (.slice Aa b.attrs.length ca)) 57 := (by rw [← hW7]; exact HX6.out.set 1 (.string s)); have hg7 : W6.grownBy W7 (some g) := (by rw [← hW7]; exact setCell_grown W6 g 1 (.string s)); refine step_load rfl 57 (.tmp 2) rfl g rfl _ _ _ hx7 Try.underlying57 rfl 68 (by kernel_rfl) (bkL_length _ _ _ _ _ HL.out) ?_; have HX7 := Aside0.mk hx7; have HY7 := Aside0.mk (HY6.out.grown hg7 (fun e => HNE.out (Option.some.inj e).symm)); have HF7 := Aside0.mk (R_box_grown HF6.out HX6.out (by decide) hg7); have HA7 := Aside0.mk (R_box_grown HA6.out HX6.out (by decide) hg7); have HB7 := Aside0.mk (HB6.out.grown hg7 HB6.out.size (by intro k hk; cases hk; exact HG.out)); clear hW7 hx7 hg7 hc6 hf6 HX6 HY6 HF6 HA6 HB6)
        | (refine step_store rfl 57 (.tmp 4) (.tmp 19) rfl g4 (bkL b.addr s b.slots (.slice Af b.free.length cf) (.slice Aa b.attrs.length ca)) rfl rfl 57 _ HY7.out 68 (by kernel_rfl) (bkL_length _ _ _ _ _ HL.out) rfl (bkL_one _ _ _ _ _ rfl rfl) ?_; intro W8 hy8 hg8))
      exact bodyPost_ret (results_ct rfl _ _ g4 57 _ (0, 0) _ rfl hy8 Try.underlying57 rfl (by simp only [List.size_toArray]; exact size57 _ (bkL_length _ _ _ _ _ HL.out))) rfl ⟨_, rfl, ⟨HL.out, _, _, rfl, R_box_grown HF7.out HY7.out (by decide) hg8, R_box_grown HA7.out HY7.out (by decide) hg8⟩, HB7.out.grown hg8 HB7.out.size (by intro k hk; cases hk; exact HG4.out)⟩
end Go.Proofs.Ytemhalnhbgkbcaa.V
end

-- BPlace
section
/- block.place: an address's slot. -/
namespace Go.Proofs.Ytemhalnhbgkbcaa.V
open Go.RowKit Go.Proofs.YtemhalnhbgkbcaaW.PrintWords Go.Proofs.YtemhalnhbgkbcaaW.PrintLast Go.Proofs.YtemhalnhbgkbcaaW.PrintMore
set_option linter.unusedVariables false
set_option linter.unusedSimpArgs false

def place1.T1 : Bool × List (List Nat × List Nat) := (true, [([], []), ([0], [0]), ([], []), ([2], [2]), ([1, 3], [1, 3])])
def place1.B1 : List Nat := [0, 1, 0, 4, 15]
theorem place1.tab1 : rtab .any (opsOf Try.f92 1) = place1.T1 := by kernel_rfl
theorem place1.bits1 : waitsOk place1.T1.2 place1.B1 = true := by kernel_rfl
set_option maxHeartbeats 4000000 in
set_option maxRecDepth 100000 in
theorem place_any (b : Bk) (hk : BkOk b) (a : Int) (h0 : 0 ≤ a) (h1 : a < 4294967296) (v : Value) (w : World) (h : BkV w v b) :
    Calls Try.prog 92 #[v, .int .u32 a] w fun e w' => e = .returned (.tuple #[.int .i64 (if firstI a = b.addr then a - b.addr else 0), .bool (decide (firstI a = b.addr))]) ∧ Below w.heap.size w w' := by
  obtain ⟨A, c, A', c', rfl, hr⟩ := h
  have HF := Aside0.mk (first_f a h0 h1)
  have hb0 := hk.a0
  have hb1 := hk.a1
  obtain ⟨f, hf⟩ : ∃ f, f = firstI a := ⟨_, rfl⟩
  have HFE := Aside0.mk hf
  rw [← hf] at HF ⊢
  have ha := b.addr
  obtain ⟨ba, hba⟩ : ∃ ba, ba = b.addr := ⟨_, rfl⟩
  have hsub : f = ba → 0 ≤ a - ba ∧ a - ba < 64 := by
    intro e
    rw [← e, hf]
    unfold firstI
    omega
  clear hr hf
  by_cases he : f = b.addr
  · have q1 : (f == b.addr) = true := by rw [beq_iff_eq]; exact he
    have q2 : (f != b.addr) = false := by rw [bne, q1]; rfl
    rw [if_pos he, decide_eq_true he]
    have hsb := hsub (by rw [hba]; exact he)
    rw [hba] at hsb
    clear hsub hba he
    go_enter Try.func92, Try.ntmps92
    go_wp2_with (first
      | (refine step_box rfl 57 (.tmp 0) rfl _ rfl ?_; intro g W1 hg hbx hb1; have HX := Aside0.mk (hbx.below (below_drew (Below.refl _ _))); have HB := Aside0.mk (below_drew hb1); clear hbx hb1 hg))
    refine start_ (n := 5) (S := fun w' => w'.cell? ⟨g, 0, none⟩ = some (.int .u32 b.addr)) (ds := []) #[false, false, false, false, false] (by kernel_rfl) rfl rfl (HX.out.cell 0 _ rfl) (fun hHeld => ?_); refine with_tabW place1.tab1 place1.bits1 (fun HT_ HW_ => ?_)
    refine pure_ (i := 0) (N := some 6) (v := ?_) (a' := ?_) #[true, false, false, false, false] rfl rfl (any_of HT_.out (by kernel_rfl)) (fun _ _ _ h => h) (Or.inl ⟨by rfl, ?_⟩) ?_ ?_
    rotate_left
    · intro w'
      go_simp
      with_reducible rfl
    rotate_left
    · simp only [Act.put, List.setIfInBounds_toArray, List.set_cons_zero, List.set_cons_succ, i64_w, i32_w]
      rfl
    refine pure_ (i := 2) (N := some 8) (v := ?_) (a' := ?_) #[true, false, true, false, false] rfl rfl (any_of HT_.out (by kernel_rfl)) (fun _ _ _ h => h) (Or.inl ⟨by rfl, ?_⟩) ?_ ?_
    rotate_left
    · intro w'
      go_simp
      with_reducible rfl
    rotate_left
    · simp only [Act.put, List.setIfInBounds_toArray, List.set_cons_zero, List.set_cons_succ, i64_w, i32_w]
      rfl
    refine take_ (i := 3) (N := some 9) (v := ?_) (a' := ?_) #[true, false, true, true, false] rfl rfl (take_ofW HT_.out HW_.out (by kernel_rfl)) (fun _ _ _ h => h) (Or.inl ⟨by rfl, ?_⟩) hHeld ?_ ?_
    rotate_left
    · intro w' hS_
      have s0 := hS_
      go_simp
      with_reducible rfl
    rotate_left
    · simp only [Act.put, List.setIfInBounds_toArray, List.set_cons_zero, List.set_cons_succ, i64_w, i32_w]
      rfl
    refine one_ (i := 1) (N := some 7) #[true, true, true, true, false] rfl rfl (one_of HT_.out (by kernel_rfl)) (by decide) (fun K hK => ?_)
    refine goes_ Try.func80 (by kernel_rfl) rfl #[.int .u32 a] (by rfl) rfl rfl (by (try simp only [List.map_toArray, List.map_cons, List.map_nil]); first | done | rfl) ?_
    refine (block_first.calls _ _ _ HF.out).mono ?_
    rintro e V3 ⟨rfl, hb3⟩
    refine ⟨_, rfl, ?_⟩
    have HX3 := Aside0.mk (HX.out.below hb3); have HB3 := Aside0.mk (HB.out.trans (hb3.mono HB.out.size)); clear hb3
    refine hK.out _ _ (HX3.out.cell 0 _ rfl) (fun hHeld => ?_)
    clear hK K
    refine norm_ (a' := ?_) ?_ ?_
    rotate_left
    · show Act.put _ (some 7) _ = _
      simp only [Act.put, List.setIfInBounds_toArray, List.set_cons_zero, List.set_cons_succ, i64_w, i32_w]
      rfl
    refine pure_ (i := 4) (N := some 10) (v := ?_) (a' := ?_) #[true, true, true, true, true] rfl rfl (any_of HT_.out (by kernel_rfl)) (fun _ _ _ h => h) (Or.inl ⟨by rfl, ?_⟩) ?_ ?_
    rotate_left
    · intro w'
      go_simp
      with_reducible rfl
    rotate_left
    · simp only [Act.put, List.setIfInBounds_toArray, List.set_cons_zero, List.set_cons_succ, i64_w, i32_w]
      rfl
    refine done_ (done_of HT_.out (by kernel_rfl)) ?_
    have hc0 := HX3.out.cell 0 _ rfl
    go_wp2
    go_ret2
    exact ⟨rfl, HB3.out⟩
  · have q1 : (f == b.addr) = false := by rw [beq_eq_false_iff_ne]; exact he
    have q2 : (f != b.addr) = true := by rw [bne, q1]; rfl
    rw [if_neg he, decide_eq_false he]
    clear hsub hba he
    go_enter Try.func92, Try.ntmps92
    go_wp2_with (first
      | (refine step_box rfl 57 (.tmp 0) rfl _ rfl ?_; intro g W1 hg hbx hb1; have HX := Aside0.mk (hbx.below (below_drew (Below.refl _ _))); have HB := Aside0.mk (below_drew hb1); clear hbx hb1 hg))
    refine start_ (n := 5) (S := fun w' => w'.cell? ⟨g, 0, none⟩ = some (.int .u32 b.addr)) (ds := []) #[false, false, false, false, false] (by kernel_rfl) rfl rfl (HX.out.cell 0 _ rfl) (fun hHeld => ?_); refine with_tabW place1.tab1 place1.bits1 (fun HT_ HW_ => ?_)
    refine pure_ (i := 0) (N := some 6) (v := ?_) (a' := ?_) #[true, false, false, false, false] rfl rfl (any_of HT_.out (by kernel_rfl)) (fun _ _ _ h => h) (Or.inl ⟨by rfl, ?_⟩) ?_ ?_
    rotate_left
    · intro w'
      go_simp
      with_reducible rfl
    rotate_left
    · simp only [Act.put, List.setIfInBounds_toArray, List.set_cons_zero, List.set_cons_succ, i64_w, i32_w]
      rfl
    refine pure_ (i := 2) (N := some 8) (v := ?_) (a' := ?_) #[true, false, true, false, false] rfl rfl (any_of HT_.out (by kernel_rfl)) (fun _ _ _ h => h) (Or.inl ⟨by rfl, ?_⟩) ?_ ?_
    rotate_left
    · intro w'
      go_simp
      with_reducible rfl
    rotate_left
    · simp only [Act.put, List.setIfInBounds_toArray, List.set_cons_zero, List.set_cons_succ, i64_w, i32_w]
      rfl
    refine take_ (i := 3) (N := some 9) (v := ?_) (a' := ?_) #[true, false, true, true, false] rfl rfl (take_ofW HT_.out HW_.out (by kernel_rfl)) (fun _ _ _ h => h) (Or.inl ⟨by rfl, ?_⟩) hHeld ?_ ?_
    rotate_left
    · intro w' hS_
      have s0 := hS_
      go_simp
      with_reducible rfl
    rotate_left
    · simp only [Act.put, List.setIfInBounds_toArray, List.set_cons_zero, List.set_cons_succ, i64_w, i32_w]
      rfl
    refine one_ (i := 1) (N := some 7) #[true, true, true, true, false] rfl rfl (one_of HT_.out (by kernel_rfl)) (by decide) (fun K hK => ?_)
    refine goes_ Try.func80 (by kernel_rfl) rfl #[.int .u32 a] (by rfl) rfl rfl (by (try simp only [List.map_toArray, List.map_cons, List.map_nil]); first | done | rfl) ?_
    refine (block_first.calls _ _ _ HF.out).mono ?_
    rintro e V3 ⟨rfl, hb3⟩
    refine ⟨_, rfl, ?_⟩
    have HX3 := Aside0.mk (HX.out.below hb3); have HB3 := Aside0.mk (HB.out.trans (hb3.mono HB.out.size)); clear hb3
    refine hK.out _ _ (HX3.out.cell 0 _ rfl) (fun hHeld => ?_)
    clear hK K
    refine norm_ (a' := ?_) ?_ ?_
    rotate_left
    · show Act.put _ (some 7) _ = _
      simp only [Act.put, List.setIfInBounds_toArray, List.set_cons_zero, List.set_cons_succ, i64_w, i32_w]
      rfl
    refine pure_ (i := 4) (N := some 10) (v := ?_) (a' := ?_) #[true, true, true, true, true] rfl rfl (any_of HT_.out (by kernel_rfl)) (fun _ _ _ h => h) (Or.inl ⟨by rfl, ?_⟩) ?_ ?_
    rotate_left
    · intro w'
      go_simp
      with_reducible rfl
    rotate_left
    · simp only [Act.put, List.setIfInBounds_toArray, List.set_cons_zero, List.set_cons_succ, i64_w, i32_w]
      rfl
    refine done_ (done_of HT_.out (by kernel_rfl)) ?_
    go_wp2
    go_ret2
    exact ⟨rfl, HB3.out⟩
end Go.Proofs.Ytemhalnhbgkbcaa.V
end

-- VFBlockAttr110
section
-- PRINTED by print.py (a twelfth state) out of the translation. Not trusted: Lean checks it.
namespace Go.Proofs.Ytemhalnhbgkbcaa.V
open Go.RowKit Go.Proofs.YtemhalnhbgkbcaaW.PrintWords Go.Proofs.YtemhalnhbgkbcaaW.PrintLast Go.Proofs.YtemhalnhbgkbcaaW.PrintMore
attribute [local go_sem] max2_int min2_int max_two min_two max_three min_three max_four min_four   -- for this text's walks alone
set_option linter.unusedVariables false
set_option linter.unusedSimpArgs false

attribute [local go_sem high] eqA85
/-! ### block_Attr_110: function 110 -/
def block_Attr_110.l0 : Nat → List (S85) → Int → Int → ByteArray → ByteArray → Option (Int)
  | 0, _, _, _, _, _ => none
  | k + 1, x0, x7, x8, x110102000, x110102001 => if x8 < x7 then (if 0 ≤ x8 then (if x8 < (x0.length : Int) then (if (x110102000.toList == (((rd_T85 x0 x8).f0).toList) && (x110102001.toList == (((rd_T85 x0 x8).f1).toList))) = true then (some x8) else (block_Attr_110.l0 k x0 x7 (wrap64 (x8 + 1)) x110102000 x110102001)) else (none)) else (none)) else (some (-1))
def block_Attr_110.f (k : Nat) (l0 : List (S85)) (a1_0 : ByteArray) (a1_1 : ByteArray) : Option (Int) := block_Attr_110.l0 k l0 (l0.length : Int) 0 a1_0 a1_1
theorem block_Attr_110.mono_l : ∀ k, (∀ y0 y1 y2 y3 y4, LeO (block_Attr_110.l0 k y0 y1 y2 y3 y4) (block_Attr_110.l0 (k + 1) y0 y1 y2 y3 y4))
  | 0 => fun _ _ _ _ _ r h => by simp [block_Attr_110.l0] at h
  | k + 1 => by
    have ih0 := block_Attr_110.mono_l k
    · intro y0 y1 y2 y3 y4
      unfold block_Attr_110.l0
      repeat' first
      | (with_reducible exact ih0 _ _ _ _ _)
      | (with_reducible exact LeO.refl _)
      | (with_reducible exact LeO.none _)
      | (with_reducible refine LeO.ite ?_ ?_)
      | (with_reducible refine LeO.bind ?_ (fun _ => ?_))
      | exact ih0 _ _ _ _ _
      | exact LeO.none _
      | refine LeO.ite ?_ ?_
      | refine LeO.bind ?_ (fun _ => ?_)
theorem block_Attr_110.mono : ∀ a0 a1 a2 k, LeO (block_Attr_110.f k a0 a1 a2) (block_Attr_110.f (k + 1) a0 a1 a2) := by
  intro a0 a1 a2 k
  have ih0 := block_Attr_110.mono_l k
  unfold block_Attr_110.f
  repeat' first
      | (with_reducible exact ih0 _ _ _ _ _)
      | (with_reducible exact LeO.refl _)
      | (with_reducible exact LeO.none _)
      | (with_reducible refine LeO.ite ?_ ?_)
      | (with_reducible refine LeO.bind ?_ (fun _ => ?_))
      | exact ih0 _ _ _ _ _
      | exact LeO.none _
      | refine LeO.ite ?_ ?_
      | refine LeO.bind ?_ (fun _ => ?_)
set_option maxHeartbeats 8000000 in
set_option maxRecDepth 100000 in
theorem block_Attr_110.calls (k : Nat) (A0 : Option Addr) (c0 : Nat) (l0 : List (S85)) (a1_0 : ByteArray) (a1_1 : ByteArray) (r : Int) (w : World) (hr0 : Kd.C k85 w A0 l0.length l0) (hc0 : l0.length ≤ c0) (h : block_Attr_110.f k l0 a1_0 a1_1 = some r) :
    Calls Try.prog 110 #[.slice A0 l0.length c0, .agg #[.string a1_0, .string a1_1]] w fun e w' => e = .returned (.int .i64 r) ∧ Below w.heap.size w w' := by
  have hu85 := Try.underlying85
  have HR0 := Aside0.mk hr0
  have HC0 := Aside0.mk hc0
  clear hr0 hc0
  have HB := Aside0.mk (Below.refl w.heap.size w)
  have H : (block_Attr_110.l0 k l0 (l0.length : Int) 0 a1_0 a1_1) = some r := h
  clear h
  have H' := Aside0.mk H
  clear H
  go_enter Try.func110, Try.ntmps110
  go_wp2_with (first | ((with_reducible refine gate_dst (N := 3) rfl ?_); refine box_event ?hg (N := 3) ?hd (cs := #[.string a1_0, .string a1_1]) (t := 85) ?hr ?_; (case hd => rfl); (case hg => rfl); (case hr => first | (go_simp; done) | (go_simp; rfl)); intro gb110101 hg w3 hbox hb; have n0_ := Aside0.mk (below_step (by repeat (first | (with_reducible first | exact HB.out | apply below_alloc | apply pw_below_drewN | apply below_drew1) | exact HB.out)) hb); have n1_ := Aside0.mk (hbox); have n2_ := Aside0.mk ((by rw [hg]; exact (below_size (by repeat (first | (with_reducible first | exact HB.out | apply below_alloc | apply pw_below_drewN | apply below_drew1) | exact HB.out))) : w.heap.size ≤ gb110101)); have n3_ := Aside0.mk ((by rw [hg]; exact (below_size (by repeat (first | (with_reducible first | exact HB.out | apply below_alloc | apply pw_below_drewN | apply below_drew1) | exact HB.out))) : w.heap.size ≤ gb110101)); clear HB; have HB := n0_; have BK110101 := n1_; have GW110101 := n2_; have GE110101 := n3_; clear n0_ n1_ n2_ n3_; clear hb hbox hg))
  repeat (go_quiet (first | ((with_reducible refine gate_dst (N := 3) rfl ?_); refine box_event ?hg (N := 3) ?hd (cs := #[.string a1_0, .string a1_1]) (t := 85) ?hr ?_; (case hd => rfl); (case hg => rfl); (case hr => first | (go_simp; done) | (go_simp; rfl)); intro gb110101 hg w3 hbox hb; have n0_ := Aside0.mk (below_step (by repeat (first | (with_reducible first | exact HB.out | apply below_alloc | apply pw_below_drewN | apply below_drew1) | exact HB.out)) hb); have n1_ := Aside0.mk (hbox); have n2_ := Aside0.mk ((by rw [hg]; exact (below_size (by repeat (first | (with_reducible first | exact HB.out | apply below_alloc | apply pw_below_drewN | apply below_drew1) | exact HB.out))) : w.heap.size ≤ gb110101)); have n3_ := Aside0.mk ((by rw [hg]; exact (below_size (by repeat (first | (with_reducible first | exact HB.out | apply below_alloc | apply pw_below_drewN | apply below_drew1) | exact HB.out))) : w.heap.size ≤ gb110101)); clear HB; have HB := n0_; have BK110101 := n1_; have GW110101 := n2_; have GE110101 := n3_; clear n0_ n1_ n2_ n3_; clear hb hbox hg)); try go_wp2_with (first | ((with_reducible refine gate_dst (N := 3) rfl ?_); refine box_event ?hg (N := 3) ?hd (cs := #[.string a1_0, .string a1_1]) (t := 85) ?hr ?_; (case hd => rfl); (case hg => rfl); (case hr => first | (go_simp; done) | (go_simp; rfl)); intro gb110101 hg w3 hbox hb; have n0_ := Aside0.mk (below_step (by repeat (first | (with_reducible first | exact HB.out | apply below_alloc | apply pw_below_drewN | apply below_drew1) | exact HB.out)) hb); have n1_ := Aside0.mk (hbox); have n2_ := Aside0.mk ((by rw [hg]; exact (below_size (by repeat (first | (with_reducible first | exact HB.out | apply below_alloc | apply pw_below_drewN | apply below_drew1) | exact HB.out))) : w.heap.size ≤ gb110101)); have n3_ := Aside0.mk ((by rw [hg]; exact (below_size (by repeat (first | (with_reducible first | exact HB.out | apply below_alloc | apply pw_below_drewN | apply below_drew1) | exact HB.out))) : w.heap.size ≤ gb110101)); clear HB; have HB := n0_; have BK110101 := n1_; have GW110101 := n2_; have GE110101 := n3_; clear n0_ n1_ n2_ n3_; clear hb hbox hg)))
  go_loopg [8] k (fun kq v8 w' => ∃ (x8_1 : Int), v8 = .int .i64 x8_1 ∧ Aside0 (block_Attr_110.l0 kq l0 (l0.length : Int) x8_1 a1_0 a1_1 = some r) ∧ Aside0 (kq ≤ k) ∧ Aside0 (w'.heap[gb110101]? = some (.cells #[.string a1_0, .string a1_1] 85 (0, 0))) ∧ Aside0 (Below w.heap.size w w'))
  case atStart => exact ⟨(0), (by first | rfl | (simp; done) | (simp [*]; done)), H', ⟨Nat.le_refl _⟩, ⟨by (with_reducible repeat (first | refine blk_drewN ?_ _ | refine blk_drew ?_ | refine blk_alloc ?_ _)); exact BK110101.out⟩, ⟨by repeat (first | (with_reducible first | exact HB.out | apply below_alloc | apply pw_below_drewN | apply below_drew1 | refine below_set ?_ GE110101.out) | exact HB.out)⟩⟩
  case round =>
    clear H'
    try clear c1
    try clear p2
    obtain ⟨x8_1, rfl, HA, HK1, BK110101, HB⟩ := hrel
    cases gk with
    | zero => exact absurd HA.out (by simp [block_Attr_110.l0])
    | succ k1 =>
      have H := HA.out
      clear HA
      simp only [block_Attr_110.l0] at H
      by_cases c4 : x8_1 < (l0.length : Int)
      · rw [if_pos c4] at H
        have c4b0 : decide (x8_1 < (l0.length : Int)) = true := decide_eq_true c4
        clear c4
        by_cases c5 : 0 ≤ x8_1
        · rw [if_pos c5] at H
          have c5b0 : decide (0 ≤ x8_1) = true := decide_eq_true c5
          clear c5
          by_cases c6 : x8_1 < (l0.length : Int)
          · rw [if_pos c6] at H
            have c6b0 : decide (x8_1 < (l0.length : Int)) = true := decide_eq_true c6
            clear c6
            by_cases c7 : (a1_0.toList == (((rd_T85 l0 x8_1).f0).toList) && (a1_1.toList == (((rd_T85 l0 x8_1).f1).toList))) = true
            · rw [if_pos c7] at H
              have c7b0 : (a1_0.toList == (((rd_T85 l0 x8_1).f0).toList) && (a1_1.toList == (((rd_T85 l0 x8_1).f1).toList))) = true := c7
              (try (have c7b1 : decide (a1_0.toList = (((rd_T85 l0 x8_1).f0).toList) && (a1_1.toList == (((rd_T85 l0 x8_1).f1).toList))) = true := by simpa using c7))
              (try (have c7b2 : (a1_0.toList == (((rd_T85 l0 x8_1).f0).toList) && (a1_1.toList == (((rd_T85 l0 x8_1).f1).toList))) = true := by simpa using c7))
              clear c7
              obtain rfl := Option.some.inj H
              have hcz8_0 : wr.cell? ⟨gb110101, 0, none⟩ = some (.string a1_0) := (blk_cell BK110101.out 0).trans rfl
              have hcz8_1 : wr.cell? ⟨gb110101, 1, none⟩ = some (.string a1_1) := (blk_cell BK110101.out 1).trans rfl
              have hfz8_0 := blk_frozen BK110101.out 0
              have hfz8_1 := blk_frozen BK110101.out 1
              have p110102 : 0 ≤ (x8_1 : Int) := of_decide_eq_true (by first | (with_reducible assumption) | assumption)
              have q110102 : x8_1 < (l0.length : Int) := of_decide_eq_true (by first | (with_reducible assumption) | assumption)
              obtain ⟨ad110102, e110102, hx110102_0, hx110102_1⟩ := at_T85 HR0.out x8_1 p110102 q110102
              cases e110102
              replace hx110102_0 := (HB.out.cell (World.block_lt_of_cell? w _ hx110102_0)).trans hx110102_0
              replace hx110102_1 := (HB.out.cell (World.block_lt_of_cell? w _ hx110102_1)).trans hx110102_1
              replace p110102 := eq_true p110102
              replace q110102 := eq_true q110102
              go_wp2
              repeat (go_quiet (fail); try go_wp2)
              go_ret
              exact ⟨by first | rfl | (simp [errW_none, errW_some] <;> rfl) | (simp [*, errW_none, errW_some] <;> rfl), by repeat (first | (with_reducible first | exact HB.out | apply below_alloc | apply pw_below_drewN | apply below_drew1 | refine below_set ?_ GE110101.out) | exact HB.out)⟩
            · rw [if_neg c7] at H
              have c7b0 : (a1_0.toList == (((rd_T85 l0 x8_1).f0).toList) && (a1_1.toList == (((rd_T85 l0 x8_1).f1).toList))) = false := by simpa using c7
              (try (have c7b1 : decide (a1_0.toList = (((rd_T85 l0 x8_1).f0).toList) && (a1_1.toList == (((rd_T85 l0 x8_1).f1).toList))) = false := by simpa using c7))
              (try (have c7b2 : (a1_0.toList == (((rd_T85 l0 x8_1).f0).toList) && (a1_1.toList == (((rd_T85 l0 x8_1).f1).toList))) = false := by simpa using c7))
              (try (have c7b3 : ¬ (a1_0.toList = (((rd_T85 l0 x8_1).f0).toList) && (a1_1.toList == (((rd_T85 l0 x8_1).f1).toList))) := by simpa using c7))
              clear c7
              have H' := Aside0.mk H
              clear H
              have hcz9_0 : wr.cell? ⟨gb110101, 0, none⟩ = some (.string a1_0) := (blk_cell BK110101.out 0).trans rfl
              have hcz9_1 : wr.cell? ⟨gb110101, 1, none⟩ = some (.string a1_1) := (blk_cell BK110101.out 1).trans rfl
              have hfz9_0 := blk_frozen BK110101.out 0
              have hfz9_1 := blk_frozen BK110101.out 1
              have p110102 : 0 ≤ (x8_1 : Int) := of_decide_eq_true (by first | (with_reducible assumption) | assumption)
              have q110102 : x8_1 < (l0.length : Int) := of_decide_eq_true (by first | (with_reducible assumption) | assumption)
              obtain ⟨ad110102, e110102, hx110102_0, hx110102_1⟩ := at_T85 HR0.out x8_1 p110102 q110102
              cases e110102
              replace hx110102_0 := (HB.out.cell (World.block_lt_of_cell? w _ hx110102_0)).trans hx110102_0
              replace hx110102_1 := (HB.out.cell (World.block_lt_of_cell? w _ hx110102_1)).trans hx110102_1
              replace p110102 := eq_true p110102
              replace q110102 := eq_true q110102
              go_wp2
              repeat (go_quiet (fail); try go_wp2)
              go_roundg k1
              case measure => have := HK1.out; omega
              case rel => exact ⟨(wrap64 (x8_1 + 1)), (by first | rfl | (simp; done) | (simp [*]; done)), H', ⟨by have := HK1.out; omega⟩, ⟨by (with_reducible repeat (first | refine blk_drewN ?_ _ | refine blk_drew ?_ | refine blk_alloc ?_ _)); exact BK110101.out⟩, ⟨by repeat (first | (with_reducible first | exact HB.out | apply below_alloc | apply pw_below_drewN | apply below_drew1 | refine below_set ?_ GE110101.out) | exact HB.out)⟩⟩
          · rw [if_neg c6] at H
            exact absurd H (by simp)
        · rw [if_neg c5] at H
          exact absurd H (by simp)
      · rw [if_neg c4] at H
        have c4b0 : decide (x8_1 < (l0.length : Int)) = false := decide_eq_false c4
        clear c4
        obtain rfl := Option.some.inj H
        go_wp2
        repeat (go_quiet (fail); try go_wp2)
        go_ret
        exact ⟨by first | rfl | (simp [errW_none, errW_some] <;> rfl) | (simp [*, errW_none, errW_some] <;> rfl), by repeat (first | (with_reducible first | exact HB.out | apply below_alloc | apply pw_below_drewN | apply below_drew1 | refine below_set ?_ GE110101.out) | exact HB.out)⟩
end Go.Proofs.Ytemhalnhbgkbcaa.V
end

