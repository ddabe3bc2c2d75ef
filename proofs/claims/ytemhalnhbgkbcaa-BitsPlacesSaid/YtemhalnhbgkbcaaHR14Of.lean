/- virgateref14.Of by hand: the set of numbers. -/
import Derived.Test.YtemhalnhbgkbcaaV0
import Derived.Test.YtemhalnhbgkbcaaVFVirgateref14In
import Derived.Test.YtemhalnhbgkbcaaHBase
namespace Go.Proofs.Ytemhalnhbgkbcaa.V
open Go.RowKit Go.Proofs.YtemhalnhbgkbcaaW.PrintWords Go.Proofs.YtemhalnhbgkbcaaW.PrintLast Go.Proofs.YtemhalnhbgkbcaaW.PrintMore
set_option linter.unusedVariables false
set_option linter.unusedSimpArgs false

/-- 'In' over numbers, any rounds. -/
theorem r14_In_l0 (l : List Int) (x : Int) (hm : l.length ≤ 9223372036854775807) : ∀ (d k i : Nat), i + d = l.length → d < k → 
    virgateref14_In.l0 k x l (l.length : Int) (i : Int) = some (decide (x ∈ l.drop i)) := by
  intro d
  induction d with
  | zero =>
    intro k i hi hk
    obtain ⟨k, rfl⟩ : ∃ m, k = m + 1 := ⟨k - 1, by omega⟩
    simp only [virgateref14_In.l0]
    rw [if_neg (by omega), List.drop_of_length_le (by omega)]
    simp
  | succ d ih =>
    intro k i hi hk
    obtain ⟨k, rfl⟩ : ∃ m, k = m + 1 := ⟨k - 1, by omega⟩
    simp only [virgateref14_In.l0]
    have hlt : i < l.length := by omega
    rw [if_pos (by omega), if_pos (by omega), if_pos (by omega)]
    have e : rd l (i : Int) = l[i] := by simp [rd, List.getD_eq_getElem?_getD, hlt]
    rw [e, List.drop_eq_getElem_cons hlt]
    by_cases hx : l[i] = x
    · rw [if_pos hx]
      simp [hx]
    · rw [if_neg hx]
      have := ih k (i + 1) (by omega) (by omega)
      rw [show wrap64 ((i : Int) + 1) = ((i + 1 : Nat) : Int) by unfold wrap64; omega, this]
      have hx' : ¬ x = l[i] := fun h => hx h.symm
      congr 1
      rw [decide_eq_decide, List.mem_cons]
      exact ⟨.inr, fun h => h.resolve_left hx'⟩
theorem r14_In_any (l : List Int) (x : Int) (n : Nat) (hn : l.length = n) (A : Option Addr) (c : Nat) (hc : n ≤ c) (w : World) (hr : Kd.C (Kd.int .i64) w A n l) :
    Calls Try.prog 18 #[.slice A n c, .int .i64 x] w fun e w' => e = .returned (.bool (decide (x ∈ l))) ∧ Drawn0 w w' := by
  subst hn
  refine virgateref14_In.calls (l.length + 1) A c l x _ w hr hc ?_
  have := r14_In_l0 l x (Kd.C_max hr) l.length (l.length + 1) 0 (by omega) (by omega)
  simpa [virgateref14_In.f] using this

def inB (l : List Int) (i : Nat) : Bool := decide ((i : Int) ∈ l)
def ofL (l : List Int) : Nat := setNat (inB l) 64
theorem ofL_lt (l : List Int) : ofL l < 18446744073709551616 := setNat_lt _ 64
def pw2 (i : Nat) : Int := ((2 ^ i % 18446744073709551616 : Nat) : Int)
def part (l : List Int) (i k : Nat) : Nat := setNat (inB l) i + if decide ((i : Int) ∈ l.take k) then 2 ^ i else 0
theorem pw2_le (i : Nat) : 0 ≤ pw2 i ∧ pw2 i < 18446744073709551616 := by unfold pw2; omega
theorem pw2_succ (i : Nat) : IntKind.u64.wrap (pw2 i * 2) = pw2 (i + 1) := by
  unfold pw2; rw [IntKind.wrap_u64, Nat.pow_succ]; omega
theorem part_lt (l : List Int) (i k : Nat) (hi : i < 64) : part l i k < 18446744073709551616 := by
  unfold part
  have h1 := setNat_lt (inB l) i
  have h2 := two_pow_le64 (i + 1) (by omega)
  rw [Nat.pow_succ] at h2
  split <;> omega
theorem part_zero (l : List Int) (i : Nat) : part l i 0 = setNat (inB l) i := by simp [part]
theorem part_full (l : List Int) (i k : Nat) (hk : l.length ≤ k) : part l i k = setNat (inB l) (i + 1) := by
  unfold part
  rw [List.take_of_length_le hk]
  simp [setNat, inB]
theorem take_succ_mem (l : List Int) (k : Nat) (h : k < l.length) (x : Int) : x ∈ l.take (k + 1) ↔ x ∈ l.take k ∨ x = l[k] := by
  rw [List.take_succ_eq_append_getElem h, List.mem_append, List.mem_singleton]
theorem part_same (l : List Int) (i k : Nat) (h : k < l.length) (hs : l[k] ≠ (i : Int) ∨ (i : Int) ∈ l.take k) : part l i (k + 1) = part l i k := by
  unfold part
  have : ((i : Int) ∈ l.take (k + 1)) ↔ (i : Int) ∈ l.take k := by
    rw [take_succ_mem l k h]
    rcases hs with hs | hs
    · constructor
      · rintro (h | h)
        · exact h
        · exact absurd h.symm hs
      · exact .inl
    · simp [hs]
  simp [this]
theorem part_new (l : List Int) (i k : Nat) (h : k < l.length) (hs : l[k] = (i : Int)) (hn : ¬ (i : Int) ∈ l.take k) : part l i (k + 1) = part l i k + 2 ^ i := by
  unfold part
  have : ((i : Int) ∈ l.take (k + 1)) := by rw [take_succ_mem l k h]; exact .inr hs.symm
  simp [this, hn]
theorem pw2_lt (i : Nat) (hi : i < 64) : pw2 i = ((2 ^ i : Nat) : Int) := by
  unfold pw2
  have := two_pow_lt64 i hi
  rw [Nat.mod_eq_of_lt this]

set_option maxHeartbeats 2000000 in
set_option maxRecDepth 100000 in
theorem r14_Of_any (l : List Int) (A : Option Addr) (c : Nat) (hc : l.length ≤ c) (w : World) (hr : Kd.C (Kd.int .i64) w A l.length l) :
    Calls Try.prog 22 #[.slice A l.length c] w fun e w' => e = .returned (.int .u64 (ofL l)) ∧ Drawn0 w w' := by
  have hm : l.length ≤ 9223372036854775807 := Kd.C_max hr
  have HR := Aside0.mk hr
  clear hr
  go_enter Try.func22, Try.ntmps22
  go_wp2
  go_loopw [3, 4, 5] (fun s v i W => ∃ j : Nat, j ≤ 64 ∧ i = .int .i64 j ∧ v = .int .u64 (pw2 j) ∧ s = .int .u64 ((setNat (inB l) j : Nat) : Int) ∧ Drawn0 w W) (fun _ _ i _ => 64 - (intOf i).toNat)
  case atStart => exact ⟨0, by omega, rfl, rfl, rfl, Drawn0.refl _⟩
  case round =>
    obtain ⟨j, hj, rfl, rfl, rfl, ⟨m1, rfl⟩⟩ := hrel
    by_cases hj2 : j < 64
    · have hjb : decide ((j : Int) < 64) = true := by simp; omega
      go_wp2
      go_loopw [3, 14] (fun s k W => ∃ q : Nat, q ≤ l.length ∧ k = .int .i64 q ∧ s = .int .u64 ((part l j q : Nat) : Int) ∧ Drawn0 w W) (fun _ k _ => l.length - (intOf k).toNat)
      case atStart => exact ⟨0, by omega, rfl, by rw [part_zero], (Drawn0.refl _).step _⟩
      case round =>
        obtain ⟨q, hq, rfl, rfl, ⟨m2, rfl⟩⟩ := hrel
        have hlt := part_lt l j q hj2
        by_cases hq2 : q < l.length
        · obtain ⟨ad, e1, hcell⟩ := Kd.at_int HR.out (q : Int) (by omega) (by omega)
          have e : rd l (q : Int) = l[q] := by simp [rd, List.getD_eq_getElem?_getD, hq2]
          rw [e, Int.toNat_natCast] at hcell
          clear e
          subst e1
          obtain ⟨i0, hi0, _, hsz, _⟩ := info_parts info3
          obtain ⟨hcut, hA, hC⟩ := print_take_of (P := Try.prog) (Value.int .i64) 0 31 3 .i64 Try.underlying31 hi0 hsz (some ad) c l (q : Int) (by omega) (by omega) hc
          have HS := Aside0.mk (Kd.C_of_reads (h1 := fun _ => rfl) (hA _ (Kd.reads_of_C HR.out)))
          clear hA hi0 hsz
          have hl2 : (l.take (q : Int).toNat).length = q := by rw [List.length_take]; omega
          rw [hl2] at HS hcut
          have HT := Aside0.mk (part_same l j q hq2)
          have HU := Aside0.mk (part_new l j q hq2)
          have hpl := part_lt l j (q + 1) hj2
          by_cases hx : l[q] = (j : Int)
          · have hx' : (l[q] == (j : Int)) = true := by simpa using hx
            have HX := Aside0.mk hx
            clear hx
            by_cases hin : (j : Int) ∈ l.take q
            · have HP := HT.out (.inr hin)
              have HD := Aside0.mk (show decide ((j : Int) ∈ l.take (q : Int).toNat) = true by simpa using hin)
              have HP2 := Aside0.mk HP
              clear HP hin
              go_wp2_with (go_at_call 18; refine (r14_In_any _ _ _ hl2 _ _ (by omega) _ (Kd.C_drewN HS.out _)).mono ?_; rintro e w' ⟨rfl, ⟨nd, rfl⟩⟩; rw [HD.out])
              go_roundw
              case rel => exact ⟨q + 1, by omega, by go_num, by rw [HP2.out], by repeat (first | exact Drawn0.refl _ | apply Drawn0.step)⟩
              case measure => simp [intOf]; omega
            · have HP := HU.out HX.out hin
              have HD := Aside0.mk (show decide ((j : Int) ∈ l.take (q : Int).toNat) = false by simpa using hin)
              have HP2 := Aside0.mk HP
              clear HP hin
              go_wp2_with (go_at_call 18; refine (r14_In_any _ _ _ hl2 _ _ (by omega) _ (Kd.C_drewN HS.out _)).mono ?_; rintro e w' ⟨rfl, ⟨nd, rfl⟩⟩; rw [HD.out])
              go_roundw
              case rel => exact ⟨q + 1, by omega, by go_num, by rw [HP2.out, pw2_lt j hj2, ← Int.natCast_add, wrap_u64_nat _ (by rw [← HP2.out]; exact hpl)], by repeat (first | exact Drawn0.refl _ | apply Drawn0.step)⟩
              case measure => simp [intOf]; omega
          · have hx' : (l[q] == (j : Int)) = false := by simpa using hx
            have HP2 := Aside0.mk (HT.out (.inl hx))
            clear hx
            go_wp2
            go_roundw
            case rel => exact ⟨q + 1, by omega, by go_num, by rw [HP2.out], by repeat (first | exact Drawn0.refl _ | apply Drawn0.step)⟩
            case measure => simp [intOf]; omega
        · obtain rfl : q = l.length := by omega
          have HF := Aside0.mk (part_full l j l.length (Nat.le_refl _))
          have HW := Aside0.mk (pw2_succ j)
          go_wp2
          go_roundw
          case rel => exact ⟨j + 1, by omega, by go_num, by rw [← HW.out], by rw [HF.out], by repeat (first | exact Drawn0.refl _ | apply Drawn0.step)⟩
          case measure => simp [intOf]; omega
    · obtain rfl : j = 64 := by omega
      go_wp2
      go_ret
      exact ⟨rfl, by repeat (first | exact Drawn0.refl _ | apply Drawn0.step)⟩
end Go.Proofs.Ytemhalnhbgkbcaa.V
