/- The law BitsOne, as a statement on numbers and lists. -/
import Derived.Test.YtemhalnhbgkbcaaVFVirgatelaw14Bitsone
import Derived.Test.YtemhalnhbgkbcaaHBits
import Derived.Test.YtemhalnhbgkbcaaHR14Of
import Derived.OpenShut
import Derived.ProofKit
namespace Go.Proofs.Ytemhalnhbgkbcaa.V
open Go.RowKit Go.Proofs.YtemhalnhbgkbcaaW.PrintWords Go.Proofs.YtemhalnhbgkbcaaW.PrintLast Go.Proofs.YtemhalnhbgkbcaaW.PrintMore
set_option linter.unusedVariables false

theorem list_ev (s : Nat) (hs : s < 18446744073709551616) (k : Nat) (hk : 64 < k) : virgateref14_List.f k (s : Int) = some (listOf s) := by
  have := r14_List_l0 s hs 64 k 0 (by omega) (by omega)
  simpa [virgateref14_List.f, listN] using this
theorem in_ev (l : List Int) (x : Int) (hm : l.length ≤ 9223372036854775807) (k : Nat) (hk : l.length < k) : virgateref14_In.f k l x = some (decide (x ∈ l)) := by
  have := r14_In_l0 l x hm l.length k 0 (by omega) hk
  simpa [virgateref14_In.f] using this
theorem rd_get (l : List Int) (i : Nat) (h : i < l.length) : rd l (i : Int) = l[i] := by simp [rd, List.getD_eq_getElem?_getD, h]
theorem wrap64_succ (i : Nat) (h : i < 9223372036854775807) : wrap64 ((i : Int) + 1) = ((i + 1 : Nat) : Int) := by unfold wrap64; omega

theorem bitsOne_l0 (x1 x2 x7 : Int) (x8 : Bool) (x9 L : List Int) (hm : L.length ≤ 64) (m : Nat) : ∀ (d i : Nat) (acc : List Int), i + d = L.length → acc.length ≤ i →
    virgatelaw14_BitsOne.l0 (m + d + 1) x1 x2 x7 x8 x9 acc L (L.length : Int) (i : Int) = virgatelaw14_BitsOne.l1 m x1 x2 x7 x8 x9 (acc ++ (L.drop i).filter (fun x => decide (x ≠ x1))) [] 0 := by
  intro d
  induction d with
  | zero =>
    intro i acc hi ha
    unfold virgatelaw14_BitsOne.l0
    rw [if_neg (by omega), List.drop_of_length_le (by omega), List.filter_nil, List.append_nil]
  | succ d ih =>
    intro i acc hi ha
    have hlt : i < L.length := by omega
    rw [show m + (d + 1) + 1 = (m + d + 1) + 1 by omega]
    unfold virgatelaw14_BitsOne.l0
    rw [if_pos (by omega), if_pos (by omega), if_pos (by omega), rd_get L i hlt, wrap64_succ i (by omega), List.drop_eq_getElem_cons hlt]
    by_cases hx : L[i] = x1
    · rw [if_pos hx, ih (i + 1) acc (by omega) (by omega), List.filter_cons_of_neg (by simpa using hx)]
    · rw [if_neg hx, if_pos (by omega), ih (i + 1) (acc ++ [L[i]]) (by omega) (by simp; omega), List.filter_cons_of_pos (by simpa using hx)]
      simp
def upTo (n : Nat) : List Int := (List.range n).map (fun i : Nat => (i : Int))
theorem upTo_succ (n : Nat) : upTo (n + 1) = upTo n ++ [(n : Int)] := by simp [upTo, List.range_succ]
theorem upTo_length (n : Nat) : (upTo n).length = n := by simp [upTo]
theorem mem_upTo (n j : Nat) : (j : Int) ∈ upTo n ↔ j < n := by
  simp only [upTo, List.mem_map, List.mem_range]
  constructor
  · rintro ⟨a, h1, h2⟩; omega
  · intro h; exact ⟨j, h, rfl⟩
def firstN (n : Int) : Nat := min 64 n.toNat
theorem bitsOne_l1 (x1 x2 x7 : Int) (x8 : Bool) (x9 x10 : List Int) (m : Nat) : ∀ (d i : Nat), i + d = firstN x2 →
    virgatelaw14_BitsOne.l1 (m + d + 1) x1 x2 x7 x8 x9 x10 (upTo i) (i : Int) = virgatelaw14_BitsOne.j2 m x1 x2 x7 x8 x9 x10 (upTo (firstN x2)) := by
  intro d
  induction d with
  | zero =>
    intro i hi
    unfold virgatelaw14_BitsOne.l1
    rw [Nat.add_zero] at hi
    rw [hi]
    unfold firstN at hi ⊢
    by_cases h : (min 64 x2.toNat : Int) < 64
    · rw [if_pos (by omega), if_neg (by omega)]
    · rw [if_neg (by omega)]
  | succ d ih =>
    intro i hi
    rw [show m + (d + 1) + 1 = (m + d + 1) + 1 by omega]
    unfold virgatelaw14_BitsOne.l1
    have h1 : (i : Int) < 64 := by unfold firstN at hi; omega
    have h2 : (i : Int) < x2 := by unfold firstN at hi; omega
    rw [if_pos h1, if_pos h2, if_pos (by rw [upTo_length]; omega), wrap64_succ i (by omega), ← upTo_succ]
    exact ih (i + 1) (by omega)
theorem withN_eq (s : Nat) (hs : s < 18446744073709551616) (i : Int) : withN s i = ofL (listOf s ++ [i]) := by
  refine eq_setNat _ _ 64 (withN_lt s hs i) fun j hj => ?_
  rw [withN_testBit s i j hj, Bool.eq_iff_iff]
  simp only [Bool.or_eq_true, decide_eq_true_eq, inB, List.mem_append, listOf, mem_listN, List.mem_singleton]
  constructor
  · rintro (h | h)
    · exact .inl ⟨hj, h⟩
    · exact .inr h.symm
  · rintro (h | h)
    · exact .inl h.2
    · exact .inr h.symm
theorem withoutN_eq (s : Nat) (hs : s < 18446744073709551616) (i : Int) : withoutN s i = ofL ((listOf s).filter (fun x => decide (x ≠ i))) := by
  refine eq_setNat _ _ 64 (withoutN_lt s hs i) fun j hj => ?_
  rw [withoutN_testBit s i j hj, Bool.eq_iff_iff]
  simp only [Bool.and_eq_true, decide_eq_true_eq, inB, List.mem_filter, listOf, mem_listN, Bool.not_eq_true', decide_eq_false_iff_not]
  constructor
  · rintro ⟨h1, h2⟩
    exact ⟨⟨hj, h1⟩, fun h => h2 h.symm⟩
  · rintro ⟨h1, h2⟩
    exact ⟨h1.2, fun h => h2 h.symm⟩
theorem all_eq (n : Int) : bits_All.f n = some ((ofL (upTo (firstN n)) : Nat) : Int) := by
  unfold bits_All.f
  congr 1
  have key : ∀ N : Nat, N ≤ 64 → ofL (upTo N) = 2 ^ N - 1 := by
    intro N hN
    symm
    refine eq_setNat _ _ 64 ?_ fun j hj => ?_
    · have : 2 ^ N ≤ 2 ^ 64 := Nat.pow_le_pow_right (by omega) hN
      have h1 : (1 : Nat) ≤ 2 ^ N := Nat.one_le_two_pow
      omega
    · rw [Nat.testBit_two_pow_sub_one]
      simp only [inB, mem_upTo]
  rw [key _ (by unfold firstN; omega)]
  unfold firstN
  have h1 : (1 : Nat) ≤ 2 ^ (min 64 n.toNat) := Nat.one_le_two_pow
  by_cases c : n < 0
  · rw [if_pos c, show n.toNat = 0 by omega]
    rfl
  · rw [if_neg c]
    by_cases c2 : 64 ≤ n
    · rw [if_pos c2, show min 64 n.toNat = 64 by omega]
      rfl
    · rw [if_neg c2, show min 64 n.toNat = n.toNat by omega] at *
      have e1 : ((2 : Int) ^ n.toNat) = ((2 ^ n.toNat : Nat) : Int) := by simp
      rw [e1]
      omega
theorem hasB_eq (s : Nat) (i : Int) : hasB s i = decide (i ∈ listOf s) := by
  rw [Bool.eq_iff_iff]
  simp only [hasB, Bool.and_eq_true, decide_eq_true_eq]
  constructor
  · rintro ⟨h1, h2⟩
    obtain ⟨h3, h4⟩ := slotB_true h1
    obtain ⟨j, rfl⟩ := Int.eq_ofNat_of_zero_le h3
    exact (mem_listN s 64 j).2 ⟨by omega, by simpa using h2⟩
  · intro h
    obtain ⟨j, rfl, h1, h2⟩ := mem_listN_nat s 64 i h
    exact ⟨slotB_of j h1, by simpa using h2⟩
theorem bitsOne_j2 (s : Nat) (hs : s < 18446744073709551616) (i n : Int) (q : Nat) : virgatelaw14_BitsOne.j2 (q + 1) i n (s : Int) (decide (i ∈ listOf s)) (listOf s ++ [i]) ((listOf s).filter (fun x => decide (x ≠ i))) (upTo (firstN n)) = some true := by
    simp only [virgatelaw14_BitsOne.j2]
    rw [has_f s hs, Option.bind_some, hasB_eq, if_pos (by simp), with_f s hs, Option.bind_some]
    unfold virgateref14_Of.f
    rw [Option.bind_some, withN_eq s hs, if_pos rfl, without_f s hs, Option.bind_some, Option.bind_some, withoutN_eq s hs, if_pos rfl, all_eq, Option.bind_some, Option.bind_some, if_pos rfl]
    rfl
theorem bitsOne_pure (s : Nat) (hs : s < 18446744073709551616) (i n : Int) : ∃ k, virgatelaw14_BitsOne.f k (s : Int) i n = some true := by
  have hl : (listOf s).length ≤ 64 := listN_length s 64
  refine ⟨((1 + firstN n + 1) + (listOf s).length + 1) + 64, ?_⟩
  have hmono := virgatelaw14_BitsOne.mono_l
  have step : virgatelaw14_BitsOne.l0 ((1 + firstN n + 1) + (listOf s).length + 1) i n (s : Int) (decide (i ∈ listOf s)) (listOf s ++ [i]) [] (listOf s) ((listOf s).length : Int) 0 = some true := by
    have h0 := bitsOne_l0 i n (s : Int) (decide (i ∈ listOf s)) (listOf s ++ [i]) (listOf s) hl (1 + firstN n + 1) (listOf s).length 0 [] (by omega) (by simp)
    rw [Int.ofNat_zero] at h0
    rw [h0, List.nil_append, List.drop_zero]
    have h1 := bitsOne_l1 i n (s : Int) (decide (i ∈ listOf s)) (listOf s ++ [i]) ((listOf s).filter (fun x => decide (x ≠ i))) 1 (firstN n) 0 (by omega)
    have e : upTo 0 = [] := rfl
    rw [Int.ofNat_zero, e] at h1
    rw [h1]
    exact bitsOne_j2 s hs i n 0
  unfold virgatelaw14_BitsOne.f
  rw [list_ev s hs _ (by omega), Option.bind_some, in_ev _ _ (by omega) _ (by omega), Option.bind_some, Option.bind_some, if_pos (by omega), Option.bind_some]
  exact at_rounds (g := fun k => virgatelaw14_BitsOne.l0 k i n (s : Int) (decide (i ∈ listOf s)) (listOf s ++ [i]) [] (listOf s) ((listOf s).length : Int) 0) (fun k => (hmono k).1 _ _ _ _ _ _ _ _ _) (Nat.le_add_right _ _) step
theorem u64_nat' {a : Int} (h : (Lit.int .u64 a).wf = true) : ∃ n : Nat, a = (n : Int) ∧ n < 18446744073709551616 := by
  have := bounds_u64 h
  exact ⟨a.toNat, by omega, by omega⟩
theorem bitsOne_walk (a0 a1 a2 : Int) (w : World) (w0 : (Lit.int .u64 a0).wf = true) (w1 : (Lit.int .i64 a1).wf = true) (w2 : (Lit.int .i64 a2).wf = true) :
    Calls Try.prog 4 #[.int .u64 a0, .int .i64 a1, .int .i64 a2] w fun e w' => e = .returned (.bool true) ∧ Below w.heap.size w w' := by
  obtain ⟨n, rfl, hn⟩ := u64_nat' w0
  obtain ⟨k, hk⟩ := bitsOne_pure n hn a1 a2
  exact virgatelaw14_BitsOne.calls k _ _ _ true w hk
end Go.Proofs.Ytemhalnhbgkbcaa.V
