/- The law IpBits for every input: texts of ours, put together (part 7 of 8). No further condition. -/
import Derived.Test.YtcdopgkkieenjaaDoorCIpBitsx5
-- ILaw1P
section
/- The laws of layer 1, as plain functions. -/
namespace Go.Proofs.YtcdopgkkieenjaaDoor.V
open Go.RowKit Go.Proofs.YtcdopgkkieenjaaDoorW.PrintWords Go.Proofs.YtcdopgkkieenjaaDoorW.PrintLast Go.Proofs.YtcdopgkkieenjaaDoorW.PrintMore
set_option linter.unusedVariables false
set_option linter.unusedSimpArgs false

theorem awake01_f : virgatelaw01_awake.f = some true := by kernel_rfl

theorem cutAt_none (c : UInt8) : ∀ x : List UInt8, c ∉ x → cutAt c x = [x]
  | [], _ => rfl
  | b :: l, h => by
    have h1 : b ≠ c := fun e => h (by simp [e])
    rw [cutAt, if_neg h1, cutAt_none c l (fun e => h (by simp [e]))]
theorem cutAt_app (c : UInt8) (r : List UInt8) : ∀ x : List UInt8, c ∉ x → cutAt c (x ++ c :: r) = x :: cutAt c r
  | [], _ => by simp [cutAt]
  | b :: l, h => by
    have h1 : b ≠ c := fun e => h (by simp [e])
    rw [List.cons_append, cutAt, if_neg h1, cutAt_app c r l (fun e => h (by simp [e]))]
theorem decL_digits : ((List.range 256).all fun n => (decL n).all fun b => decide (48 ≤ b) && decide (b ≤ 57)) = true := by kernel_rfl
theorem decL_no (n : Nat) (h : n < 256) (c : UInt8) (hc : c < 48 ∨ 57 < c) : c ∉ decL n := by
  have h1 := List.all_eq_true.1 decL_digits n (List.mem_range.2 h)
  intro hm
  have h2 := List.all_eq_true.1 h1 c hm
  simp only [Bool.and_eq_true, decide_eq_true_eq] at h2
  rcases hc with hc | hc
  · exact absurd hc (by simpa using h2.1)
  · exact absurd hc (by simpa using h2.2)
/-- An address's text, as a list. -/
def ipL (a : Nat) : List UInt8 := decL (byteAt a 0) ++ 46 :: (decL (byteAt a 1) ++ 46 :: (decL (byteAt a 2) ++ 46 :: decL (byteAt a 3)))
theorem ipText_data (a : Nat) : (ipText a).data.toList = ipL a := by
  have e : (textsOf a).map (·.data.toList) = [decL (byteAt a 0), decL (byteAt a 1), decL (byteAt a 2), decL (byteAt a 3)] := by simp [textsOf, decB]
  unfold ipText ipL
  rw [e]
  simp [Lib.join, List.intercalate]
theorem byteAt_sum (a : Nat) (ha : a < 4294967296) : ((byteAt a 0 * 256 + byteAt a 1) * 256 + byteAt a 2) * 256 + byteAt a 3 = a := by
  unfold byteAt
  simp only [Nat.sub_zero, Nat.sub_self]
  omega
theorem ipOf_text (a : Nat) (ha : a < 4294967296) : ipOf (ipL a) = some a := by
  have hn := fun i => decL_no (byteAt a i) (byteAt_lt a i) 46 (.inl (by decide))
  unfold ipOf ipL
  rw [cutAt_app _ _ _ (hn 0), cutAt_app _ _ _ (hn 1), cutAt_app _ _ _ (hn 2), cutAt_none _ _ (hn 3)]
  simp only [ipOfP, byteOf_decL _ (byteAt_lt a _), Option.bind_some, byteAt_sum a ha]
theorem parseR_text (a : Nat) (ha : a < 4294967296) : parseR (ipText a) = ((a : Int), 0) := by
  unfold parseR
  rw [ipText_data, ipOf_text a ha]

theorem byte_l0 : ∀ (d k i x : Nat), i + d = 3 → d + 1 ≤ k → x < 4294967296 → virgateref01_Byte.l0 k (x : Int) (i : Int) = some ((x / 256 ^ d % 256 : Nat) : Int) := by
  intro d
  induction d with
  | zero =>
    intro k i x hi hk hx
    obtain ⟨k, rfl⟩ : ∃ m, k = m + 1 := ⟨k - 1, by omega⟩
    rw [virgateref01_Byte.l0, if_neg (by omega)]
    simp
    rfl
  | succ d ih =>
    intro k i x hi hk hx
    obtain ⟨k, rfl⟩ : ∃ m, k = m + 1 := ⟨k - 1, by omega⟩
    rw [virgateref01_Byte.l0, if_pos (by omega), show Int.tdiv (x : Int) 256 = ((x / 256 : Nat) : Int) from rfl, wrap64_id _ (by omega) (by omega), wrap64_id _ (by omega) (by omega)]
    have := ih k (i + 1) (x / 256) (by omega) (by omega) (by omega)
    rw [Nat.div_div_eq_div_mul, ← Nat.pow_succ'] at this
    exact this
theorem byte_f (a : Nat) (ha : a < 4294967296) (i : Nat) (hi : i ≤ 3) (k : Nat) (hk : 4 ≤ k) : virgateref01_Byte.f k (a : Int) (i : Int) = some ((byteAt a i : Nat) : Int) := by
  unfold virgateref01_Byte.f byteAt
  rw [wrap64_id _ (by omega) (by omega), byte_l0 (3 - i) k i a (by omega) (by omega) ha, Nat.pow_mul]
theorem decB_size (n : Nat) : (decB n).size ≤ 3 := by
  have := decL_length n
  rw [← decB_data, data_length] at this
  exact this
theorem lit1 (b : UInt8) : (⟨#[b]⟩ : ByteArray).size = 1 := rfl
theorem rprint_f (a : Nat) (ha : a < 4294967296) (k : Nat) (hk : 4 ≤ k) : virgateref01_Print.f k (a : Int) = some (ipText a) := by
  have b0 := byte_f a ha 0 (by omega) k hk; have b1 := byte_f a ha 1 (by omega) k hk; have b2 := byte_f a ha 2 (by omega) k hk; have b3 := byte_f a ha 3 (by omega) k hk
  have n0 := num_f _ (byteAt_lt a 0) k hk; have n1 := num_f _ (byteAt_lt a 1) k hk; have n2 := num_f _ (byteAt_lt a 2) k hk; have n3 := num_f _ (byteAt_lt a 3) k hk
  have s0 := decB_size (byteAt a 0); have s1 := decB_size (byteAt a 1); have s2 := decB_size (byteAt a 2); have s3 := decB_size (byteAt a 3)
  unfold virgateref01_Print.f
  have b0' : virgateref01_Byte.f k (a : Int) 0 = some ((byteAt a 0 : Nat) : Int) := b0
  have b1' : virgateref01_Byte.f k (a : Int) 1 = some ((byteAt a 1 : Nat) : Int) := b1
  have b2' : virgateref01_Byte.f k (a : Int) 2 = some ((byteAt a 2 : Nat) : Int) := b2
  have b3' : virgateref01_Byte.f k (a : Int) 3 = some ((byteAt a 3 : Nat) : Int) := b3
  rw [b0', Option.bind_some, n0, Option.bind_some, if_pos (by omega), b1', Option.bind_some, n1, Option.bind_some, if_pos (by simp only [ByteArray.size_append, lit1]; omega), if_pos (by simp only [ByteArray.size_append, lit1]; omega), b2', Option.bind_some, n2, Option.bind_some, if_pos (by simp only [ByteArray.size_append, lit1]; omega), if_pos (by simp only [ByteArray.size_append, lit1]; omega), b3', Option.bind_some, n3, Option.bind_some, if_pos (by simp only [ByteArray.size_append, lit1]; omega)]
  congr 1
  apply ByteArray.ext
  apply Array.ext'
  rw [ipText_data]
  simp [ipL, decB]
theorem ipPrint_law (a : Nat) (ha : a < 4294967296) : virgatelaw01_IpPrint.f 8 (a : Int) = some true := by
  have hp : ip_Print.f (a : Int) = some (ipText a) := by unfold ip_Print.f; rw [if_pos (by omega)]; rfl
  have hs : (ipText a).size ≤ 15 := by
    have := ipText_length a
    unfold ipText
    simpa [ByteArray.size] using this
  have hq : ip_Parse.f (ipText a) = some ((a : Int), 0) := by unfold ip_Parse.f; rw [if_pos (by omega), parseR_text a ha]
  unfold virgatelaw01_IpPrint.f
  rw [hp, Option.bind_some, hq, Option.bind_some, rprint_f a ha 8 (by omega), Option.bind_some, if_pos rfl, if_pos rfl, if_pos rfl, awake01_f]
  rfl
theorem parse_both (s : ByteArray) (hs : s.size ≤ 1000) (k : Nat) (hk : 3 * s.size + 20 ≤ k) : ∃ v : Int, (ip_Parse.f s = some (v, 0) ∧ virgateref01_Parse.f k s = some (v, true)) ∨ (ip_Parse.f s = some (0, 3) ∧ virgateref01_Parse.f k s = some (0, false)) := by
  rw [rparse_f s (by omega) k hk]
  unfold ip_Parse.f parseR
  rw [if_pos (by omega)]
  cases ipOf s.data.toList with
  | some v => exact ⟨v, .inl ⟨rfl, rfl⟩⟩
  | none => exact ⟨0, .inr ⟨rfl, rfl⟩⟩
theorem ipParse_law (s : ByteArray) : virgatelaw01_IpParse.f 200 s = some true := by
  have fin : ∀ t : ByteArray, t.size ≤ 40 → ((ip_Parse.f t).bind fun bt4107 => ((virgateref01_Parse.f 200 t).bind fun bt4109 => (if ((bt4107.2 == 0) == bt4109.2) = true then (if bt4109.2 = true then (if bt4107.1 = bt4109.1 then ((virgatelaw01_awake.f).bind fun t4111 => (some t4111)) else (some false)) else (if bt4107.2 = 3 then (if bt4107.1 = bt4109.1 then ((virgatelaw01_awake.f).bind fun t4112 => (some t4112)) else (some false)) else (some false))) else (some false)))) = some true := by
    intro t ht
    obtain ⟨v, ⟨h1, h2⟩ | ⟨h1, h2⟩⟩ := parse_both t (by omega) 200 (by omega)
    · rw [h1, h2, awake01_f]
      simp
    · rw [h1, h2, awake01_f]
      simp
  unfold virgatelaw01_IpParse.f
  by_cases h : (s.size : Int) > 40
  · rw [if_pos h, if_pos (by omega), if_pos (by omega)]
    exact fin _ (by simp; omega)
  · rw [if_neg h]
    exact fin s (by omega)

theorem ipAdd_law (a b : Nat) (n : Int) (ha : a < 4294967296) (hb : b < 4294967296) (h1 : -9223372036854775808 ≤ n) (h2 : n ≤ 9223372036854775807) : virgatelaw01_IpAdd.f 4 (a : Int) (b : Int) n = some true := by
  have wa : Aside0 (wrap64 (a : Int) = a) := ⟨wrap64_id _ (by omega) (by omega)⟩
  have wb : Aside0 (wrap64 (b : Int) = b) := ⟨wrap64_id _ (by omega) (by omega)⟩
  have wd : Aside0 (wrap64 ((b : Int) - a) = (b : Int) - a) := ⟨wrap64_id _ (by omega) (by omega)⟩
  have wn : Aside0 (wrap64 (-(a : Int)) = -(a : Int)) := ⟨wrap64_id _ (by omega) (by omega)⟩
  have wm : Aside0 (wrap64 (4294967295 - (a : Int)) = 4294967295 - (a : Int)) := ⟨wrap64_id _ (by omega) (by omega)⟩
  have e1 : ip_Between.f (a : Int) (b : Int) = some ((b : Int) - a) := by unfold ip_Between.f; rw [wa.out, wb.out, wd.out]
  have e2 : ∀ x : Int, -(a : Int) ≤ x → x ≤ 4294967295 - a → ip_Add.f (a : Int) x = some ((a : Int) + x, 0) := by
    intro x g1 g2
    unfold ip_Add.f
    rw [wa.out, wn.out, wm.out, if_neg (by omega), if_neg (by omega), wrap64_id _ (by omega) (by omega), show ((a : Int) + x) % 4294967296 = a + x by omega]
  have e3 : ∀ x : Int, x < -(a : Int) ∨ x > 4294967295 - a → ip_Add.f (a : Int) x = some (0, 1) := by
    intro x g
    unfold ip_Add.f
    rw [wa.out, wn.out, wm.out]
    by_cases g1 : x < -(a : Int)
    · rw [if_pos g1]
    · rw [if_neg g1, if_pos (by omega)]
  unfold virgatelaw01_IpAdd.f
  rw [e1, Option.bind_some, e2 _ (by omega) (by omega), Option.bind_some, wa.out, wb.out, wd.out, if_pos rfl, if_pos (by omega), show ((0 : Int) != 0) = false from rfl, virgatelaw01_IpAdd.j0, if_neg (by decide), wa.out, wn.out, wm.out]
  by_cases g1 : n ≥ -(a : Int)
  · by_cases g2 : n ≤ 4294967295 - (a : Int)
    · rw [e2 n (by omega) g2, Option.bind_some, if_pos g1, decide_eq_true g2, virgatelaw01_IpAdd.j1, if_pos rfl, if_pos rfl]
      have e4 : ip_Between.f (a : Int) ((a : Int) + n) = some n := by
        unfold ip_Between.f
        rw [wa.out, wrap64_id ((a : Int) + n) (by omega) (by omega), show (a : Int) + n - a = n by omega, wrap64_id n (by omega) (by omega)]
      rw [e4, Option.bind_some, if_pos rfl, awake01_f]
      rfl
    · rw [e3 n (by omega), Option.bind_some, if_pos g1, decide_eq_false g2, virgatelaw01_IpAdd.j1, if_neg (by decide), if_pos rfl, if_pos rfl, awake01_f]
      rfl
  · rw [e3 n (by omega), Option.bind_some, if_neg g1, virgatelaw01_IpAdd.j1, if_neg (by decide), if_pos rfl, if_pos rfl, awake01_f]
    rfl
end Go.Proofs.YtcdopgkkieenjaaDoor.V
end

-- ILaw1
section
/- The walks of the laws of layer 1. -/
namespace Go.Proofs.YtcdopgkkieenjaaDoor.V
open Go.RowKit Go.Proofs.YtcdopgkkieenjaaDoorW.PrintWords Go.Proofs.YtcdopgkkieenjaaDoorW.PrintLast Go.Proofs.YtcdopgkkieenjaaDoorW.PrintMore
set_option linter.unusedVariables false
theorem wf_u32 {a : Int} (h : (Lit.int .u32 a).wf = true) : ∃ n : Nat, a = (n : Int) ∧ n < 4294967296 := by
  have : 0 ≤ a ∧ a ≤ 4294967295 := by simpa [Lit.wf, IntKind.min, IntKind.max, IntKind.signed, IntKind.bits] using h
  exact ⟨a.toNat, by omega, by omega⟩
theorem wf_i64 {a : Int} (h : (Lit.int .i64 a).wf = true) : -9223372036854775808 ≤ a ∧ a ≤ 9223372036854775807 := by
  simpa [Lit.wf, IntKind.min, IntKind.max, IntKind.signed, IntKind.bits] using h
theorem ipPrint_walk (a0 : Int) (w : World) (w0 : (Lit.int .u32 a0).wf = true) : Calls Tryd.prog 3 #[.int .u32 a0] w fun e w' => e = .returned (.bool true) ∧ Below w.heap.size w w' := by
  obtain ⟨n, rfl, hn⟩ := wf_u32 w0
  exact virgatelaw01_IpPrint.calls 8 _ true w (ipPrint_law n hn)
theorem ipParse_walk (a0 : ByteArray) (w : World) (w0 : a0.size ≤ 140737488351232) : Calls Tryd.prog 4 #[.string a0] w fun e w' => e = .returned (.bool true) ∧ Below w.heap.size w w' :=
  virgatelaw01_IpParse.calls 200 _ true w (ipParse_law a0)
theorem ipAdd_walk (a0 a1 a2 : Int) (w : World) (w0 : (Lit.int .u32 a0).wf = true) (w1 : (Lit.int .u32 a1).wf = true) (w2 : (Lit.int .i64 a2).wf = true) : Calls Tryd.prog 6 #[.int .u32 a0, .int .u32 a1, .int .i64 a2] w fun e w' => e = .returned (.bool true) ∧ Below w.heap.size w w' := by
  obtain ⟨n, rfl, hn⟩ := wf_u32 w0
  obtain ⟨m, rfl, hm⟩ := wf_u32 w1
  exact virgatelaw01_IpAdd.calls 4 _ _ _ true w (ipAdd_law n m a2 hn hm (wf_i64 w2).1 (wf_i64 w2).2)
end Go.Proofs.YtcdopgkkieenjaaDoor.V
end

-- IBits
section
/- IpBits: an address's bits, and how many two have alike: the plain law and the walk. -/
namespace Go.Proofs.YtcdopgkkieenjaaDoor.V
open Go.RowKit Go.Proofs.YtcdopgkkieenjaaDoorW.PrintWords Go.Proofs.YtcdopgkkieenjaaDoorW.PrintLast Go.Proofs.YtcdopgkkieenjaaDoorW.PrintMore
set_option linter.unusedVariables false
set_option linter.unusedSimpArgs false

/-- Bit i of an address, 0 the highest one. -/
def bitB (a : Nat) (i : Int) : Bool := if 0 ≤ i ∧ i < 32 then a.testBit (31 - i.toNat) else false
theorem and_one32 (a : Nat) (ha : a < 4294967296) : Go.bits .and .u32 (a : Int) 1 = ((a % 2 : Nat) : Int) := by
  have := u32_and_nat a 1 ha (by omega)
  rw [Nat.and_one_is_mod] at this
  exact this
theorem one_eq (n : Nat) : (((n % 2 : Nat) : Int) == 1) = decide (n % 2 = 1) := by
  by_cases h : n % 2 = 1
  · simp [h]
  · have : n % 2 = 0 := by omega
    simp [this]
theorem ipBit_f (a : Nat) (ha : a < 4294967296) (i : Int) (h1 : -9223372036854775808 ≤ i) (h2 : i ≤ 9223372036854775807) : ip_Bit.f (a : Int) i = some (bitB a i) := by
  unfold ip_Bit.f bitB
  by_cases g1 : i ≥ 0
  · by_cases g2 : i < 32
    · obtain ⟨n, rfl⟩ : ∃ n : Nat, i = n := ⟨i.toNat, by omega⟩
      have e : (31 - (n : Int)) = ((31 - n : Nat) : Int) := by omega
      rw [if_pos g1, if_pos g2, e, wrap64_id _ (by omega) (by omega), if_pos (by omega), if_pos ⟨by omega, by omega⟩]
      have e2 : shr .u32 (a : Int) ((31 - n : Nat) : Int) = ((a / 2 ^ (31 - n) : Nat) : Int) := by
        unfold shr
        rw [Int.toNat_natCast, show min (31 - n) IntKind.u32.bits = 31 - n from Nat.min_eq_left (by simp [IntKind.bits]; omega)]
        simp
      rw [e2, and_one32 _ (Nat.lt_of_le_of_lt (Nat.div_le_self _ _) ha), one_eq, Int.toNat_natCast, Nat.testBit_eq_decide_div_mod_eq]
    · rw [if_pos g1, if_neg g2, if_neg (by omega)]
  · rw [if_neg g1, if_neg (by omega)]
theorem rbit_l0 : ∀ (d k i x : Nat), i + d = 31 → d + 1 ≤ k → x < 4294967296 → virgateref01_Bit.l0 k (x : Int) (i : Int) = some (x.testBit d) := by
  intro d
  induction d with
  | zero =>
    intro k i x hi hk hx
    obtain ⟨k, rfl⟩ : ∃ m, k = m + 1 := ⟨k - 1, by omega⟩
    rw [virgateref01_Bit.l0, if_neg (by omega), show Int.tmod (x : Int) 2 = ((x % 2 : Nat) : Int) from rfl, one_eq, Nat.testBit_eq_decide_div_mod_eq]
    simp
  | succ d ih =>
    intro k i x hi hk hx
    obtain ⟨k, rfl⟩ : ∃ m, k = m + 1 := ⟨k - 1, by omega⟩
    rw [virgateref01_Bit.l0, if_pos (by omega), show Int.tdiv (x : Int) 2 = ((x / 2 : Nat) : Int) from rfl, wrap64_id _ (by omega) (by omega), wrap64_id _ (by omega) (by omega)]
    have := ih k (i + 1) (x / 2) (by omega) (by omega) (by omega)
    rw [Nat.testBit_succ]
    exact this
theorem rbit_f (a : Nat) (ha : a < 4294967296) (i : Int) (k : Nat) (hk : 34 ≤ k) : virgateref01_Bit.f k (a : Int) i = some (bitB a i) := by
  obtain ⟨k, rfl⟩ : ∃ m, k = m + 1 := ⟨k - 1, by omega⟩
  unfold virgateref01_Bit.f bitB
  by_cases g1 : i < 0
  · rw [if_pos g1, if_neg (by omega), virgateref01_Bit.j0, if_pos rfl]
  · rw [if_neg g1, virgateref01_Bit.j0]
    by_cases g2 : i > 31
    · rw [if_pos (decide_eq_true g2), if_neg (by omega)]
    · obtain ⟨n, rfl⟩ : ∃ n : Nat, i = n := ⟨i.toNat, by omega⟩
      rw [decide_eq_false g2, if_neg (by decide), if_pos ⟨by omega, by omega⟩, wrap64_id _ (by omega) (by omega), rbit_l0 (31 - n) k n a (by omega) (by omega) ha, Int.toNat_natCast]
theorem top_bit (x n : Nat) (hn : n < 32) : (x * 2 ^ n % 4294967296 / 2147483648 = 0) = (x.testBit (31 - n) = false) := by
  have e : x * 2 ^ n % 4294967296 / 2147483648 = x / 2 ^ (31 - n) % 2 := by
    rw [show (4294967296 : Nat) = 2147483648 * 2 from rfl, Nat.mod_mul_right_div_self]
    congr 1
    rw [show (2147483648 : Nat) = 2 ^ (31 - n) * 2 ^ n by rw [← Nat.pow_add, show 31 - n + n = 31 by omega], Nat.mul_div_mul_right _ _ (Nat.two_pow_pos n)]
  rw [e, Nat.testBit_eq_decide_div_mod_eq]
  simp
theorem lead_both (a b : Nat) (ha : a < 4294967296) (hb : b < 4294967296) : ∀ (d k k2 n : Nat), n + d = 32 → d + 1 ≤ k → d + 40 ≤ k2 →
    ∃ r, ip_Lead.l0 k (n : Int) ((((a ^^^ b) * 2 ^ n % 4294967296 : Nat)) : Int) = some r ∧ virgateref01_Lead.l0 k2 (a : Int) (b : Int) (n : Int) = some r := by
  intro d
  induction d with
  | zero =>
    intro k k2 n hn hk hk2
    obtain ⟨k, rfl⟩ : ∃ m, k = m + 1 := ⟨k - 1, by omega⟩
    obtain ⟨k2, rfl⟩ : ∃ m, k2 = m + 1 := ⟨k2 - 1, by omega⟩
    rw [ip_Lead.l0, virgateref01_Lead.l0, if_neg (by omega), if_neg (by omega)]
    exact ⟨_, rfl, rfl⟩
  | succ d ih =>
    intro k k2 n hn hk hk2
    obtain ⟨k, rfl⟩ : ∃ m, k = m + 1 := ⟨k - 1, by omega⟩
    obtain ⟨k2, rfl⟩ : ∃ m, k2 = m + 1 := ⟨k2 - 1, by omega⟩
    rw [ip_Lead.l0, virgateref01_Lead.l0, if_pos (show ((n : Int) < 32) by omega), if_pos (show ((n : Int) < 32) by omega), rbit_f a ha _ k2 (by omega), Option.bind_some, rbit_f b hb _ k2 (by omega), Option.bind_some, wrap64_id ((n : Int) + 1) (by omega) (by omega)]
    have ht := top_bit (a ^^^ b) n (by omega)
    have hB : bitB a (n : Int) = a.testBit (31 - n) := by unfold bitB; rw [if_pos ⟨by omega, by omega⟩, Int.toNat_natCast]
    have hB2 : bitB b (n : Int) = b.testBit (31 - n) := by unfold bitB; rw [if_pos ⟨by omega, by omega⟩, Int.toNat_natCast]
    rw [hB, hB2]
    rw [Nat.testBit_xor] at ht
    by_cases hq : a.testBit (31 - n) = b.testBit (31 - n)
    · have h0 : (a ^^^ b) * 2 ^ n % 4294967296 / 2147483648 = 0 := by rw [ht, hq]; simp
      rw [if_pos (by omega), if_pos (by simp [hq])]
      have := ih k k2 (n + 1) (by omega) (by omega) (by omega)
      rw [show (a ^^^ b) * 2 ^ (n + 1) % 4294967296 = (a ^^^ b) * 2 ^ n % 4294967296 * 2 % 4294967296 by rw [Nat.pow_succ, ← Nat.mul_assoc]; omega] at this
      exact this
    · have h0 : ¬ (a ^^^ b) * 2 ^ n % 4294967296 / 2147483648 = 0 := by
        rw [ht]
        revert hq
        cases a.testBit (31 - n) <;> cases b.testBit (31 - n) <;> simp
      rw [if_neg (by omega), if_neg (by simpa using hq)]
      exact ⟨_, rfl, rfl⟩
theorem ipBits_law (a b : Nat) (i : Int) (ha : a < 4294967296) (hb : b < 4294967296) (h1 : -9223372036854775808 ≤ i) (h2 : i ≤ 9223372036854775807) : virgatelaw01_IpBits.f 80 (a : Int) (b : Int) i = some true := by
  obtain ⟨r, e1, e2⟩ := lead_both a b ha hb 32 80 80 0 (by omega) (by omega) (by omega)
  have e1' : ip_Lead.f 80 (a : Int) (b : Int) = some r := by
    unfold ip_Lead.f
    rw [u32_xor_nat a b ha hb]
    have hx : a ^^^ b < 2 ^ 32 := Nat.xor_lt_two_pow (by omega) (by omega)
    rw [Nat.pow_zero, Nat.mul_one, Nat.mod_eq_of_lt (by omega)] at e1
    exact e1
  have e2' : virgateref01_Lead.f 80 (a : Int) (b : Int) = some r := e2
  unfold virgatelaw01_IpBits.f
  rw [ipBit_f a ha i h1 h2, Option.bind_some, rbit_f a ha i 80 (by omega), Option.bind_some, if_pos (by simp), e1', Option.bind_some, e2', Option.bind_some, if_pos rfl, awake01_f]
  rfl
theorem ipBits_walk (a0 a1 a2 : Int) (w : World) (w0 : (Lit.int .u32 a0).wf = true) (w1 : (Lit.int .u32 a1).wf = true) (w2 : (Lit.int .i64 a2).wf = true) : Calls Tryd.prog 7 #[.int .u32 a0, .int .u32 a1, .int .i64 a2] w fun e w' => e = .returned (.bool true) ∧ Below w.heap.size w w' := by
  obtain ⟨n, rfl, hn⟩ := wf_u32 w0
  obtain ⟨m, rfl, hm⟩ := wf_u32 w1
  exact virgatelaw01_IpBits.calls 80 _ _ _ true w (ipBits_law n m a2 hn hm (wf_i64 w2).1 (wf_i64 w2).2)
end Go.Proofs.YtcdopgkkieenjaaDoor.V
end

