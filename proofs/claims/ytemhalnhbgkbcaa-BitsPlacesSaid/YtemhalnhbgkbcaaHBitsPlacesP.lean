/- The law BitsPlaces, as a statement on numbers and lists. -/
import Derived.Test.YtemhalnhbgkbcaaVFVirgatelaw14Bitsplaces
import Derived.Test.YtemhalnhbgkbcaaHBits2
import Derived.Test.YtemhalnhbgkbcaaHBitsOneP
namespace Go.Proofs.Ytemhalnhbgkbcaa.V
open Go.RowKit Go.Proofs.YtemhalnhbgkbcaaW.PrintWords Go.Proofs.YtemhalnhbgkbcaaW.PrintLast Go.Proofs.YtemhalnhbgkbcaaW.PrintMore
set_option linter.unusedVariables false
set_option linter.unusedSimpArgs false

theorem nthOf_in (l : List Int) (q : Int) (h0 : 0 ≤ q) (h : q < l.length) : nthOf l q = (rd l q, true) := by
  obtain ⟨n, rfl⟩ := Int.eq_ofNat_of_zero_le h0
  have hn : n < l.length := by omega
  unfold nthOf
  rw [if_neg (by omega), Int.toNat_natCast, List.drop_eq_getElem_cons hn, rd_get l n hn]
  rfl
theorem nthOf_out (l : List Int) (q : Int) (h : q < 0 ∨ (l.length : Int) ≤ q) : nthOf l q = (0, false) := by
  unfold nthOf
  by_cases h0 : q < 0
  · rw [if_pos h0]
  · rw [if_neg h0, List.drop_of_length_le (by omega)]
    rfl
theorem bitsPlaces_pure (s : Nat) (hs : s < 18446744073709551616) (q : Int) : ∃ k, virgatelaw14_BitsPlaces.f k (s : Int) q = some true := by
  refine ⟨131, ?_⟩
  unfold virgatelaw14_BitsPlaces.f
  have hl := listOf_length s
  rw [list_ev s hs _ (by omega), Option.bind_some, low_f s hs _ (by omega), Option.bind_some, high_f s hs _ (by omega), Option.bind_some, nth_f s hs q _ (by omega), Option.bind_some]
  generalize listOf s = L at *
  rcases List.eq_nil_or_concat L with rfl | ⟨L', y, rfl⟩
  · rw [nthOf_out [] q (by simp; omega)]
    have e1 : firstOf [] = (0, false) := rfl
    have e2 : lastOf [] = (0, false) := rfl
    rw [if_pos (show ((([] : List Int).length : Nat) : Int) = 0 from rfl), e1, e2, if_neg (by simp), if_neg (by simp), if_neg (by simp), if_pos (by simp [wrap64])]
    rfl
  · rw [List.concat_eq_append] at *
    have hlen : (L' ++ [y]).length = L'.length + 1 := by simp
    have hlast : lastOf (L' ++ [y]) = (y, true) := by simp [lastOf]
    have hrl : rd (L' ++ [y]) (L'.length : Int) = y := by
      rw [rd_get _ _ (by omega)]
      simp
    obtain ⟨x, hx⟩ : ∃ x, firstOf (L' ++ [y]) = (x, true) ∧ rd (L' ++ [y]) 0 = x := by
      cases L' with
      | nil => exact ⟨y, rfl, rfl⟩
      | cons z L' => exact ⟨z, rfl, rfl⟩
    have hw : wrap64 (((L' ++ [y]).length : Int) - 1) = (L'.length : Int) := by unfold wrap64; omega
    rw [if_neg (by omega), hx.1, if_pos rfl, hlast, if_pos rfl, if_pos (by omega), if_pos hx.2.symm, hw, if_pos (by omega), if_pos (by omega), hrl, if_pos rfl]
    by_cases h0 : q ≥ 0
    · rw [if_pos h0]
      by_cases h1 : q < (L' ++ [y]).length
      · rw [nthOf_in _ q h0 h1, if_neg (by simp [h1]; omega), if_pos rfl, if_pos h0, if_pos h1, if_pos rfl]
        rfl
      · rw [nthOf_out _ q (.inr (by omega)), if_neg (by simp; omega), if_neg (by simp), if_pos rfl]
        rfl
    · rw [if_neg h0, nthOf_out _ q (.inl (by omega)), if_neg (by simp), if_neg (by simp), if_pos rfl]
      rfl
theorem bitsPlaces_walk (a0 a1 : Int) (w : World) (w0 : (Lit.int .u64 a0).wf = true) (w1 : (Lit.int .i64 a1).wf = true) :
    Calls Try.prog 6 #[.int .u64 a0, .int .i64 a1] w fun e w' => e = .returned (.bool true) ∧ Below w.heap.size w w' := by
  obtain ⟨n, rfl, hn⟩ := u64_nat' w0
  obtain ⟨k, hk⟩ := bitsPlaces_pure n hn a1
  exact virgatelaw14_BitsPlaces.calls k _ _ true w hk
end Go.Proofs.Ytemhalnhbgkbcaa.V
