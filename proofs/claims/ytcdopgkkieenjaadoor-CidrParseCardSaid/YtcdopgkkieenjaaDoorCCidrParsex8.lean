/- The law CidrParse for every input: texts of ours, put together (part 9 of 12). No further condition. -/
import Derived.Test.YtcdopgkkieenjaaDoorCD6
import Derived.Test.YtcdopgkkieenjaaDoorCD3
-- ICidrS
section
/- The document's Parse of a net. -/
namespace Go.Proofs.YtcdopgkkieenjaaDoor.V
open Go.RowKit Go.Proofs.YtcdopgkkieenjaaDoorW.PrintWords Go.Proofs.YtcdopgkkieenjaaDoorW.PrintLast Go.Proofs.YtcdopgkkieenjaaDoorW.PrintMore
set_option linter.unusedVariables false
set_option linter.unusedSimpArgs false
theorem index_none (c : UInt8) : ∀ l : List UInt8, c ∉ l → Lib.indexByte l c = -1
  | [], _ => rfl
  | b :: l, h => by
    have h1 : ¬ b = c := fun e => h (by simp [e])
    have ih := index_none c l (fun e => h (by simp [e]))
    rw [Lib.indexByte, ih]
    simp [h1]
theorem rp2_l0 (s : ByteArray) (hs : s.size < 1000000) : ∀ (d k i : Nat), s.size - i ≤ d → d + 3 * s.size + 60 ≤ k → i ≤ s.size → (47 : UInt8) ∉ s.data.toList.take i →
    virgateref02_Parse.l0 k s (i : Int) = some (match netR s with | some (v, n) => ((v : Int), (n : Int), true) | none => (0, 0, false)) := by
  intro d
  have hl := data_length s
  induction d with
  | zero =>
    intro k i hd hk hi hn
    obtain ⟨k, rfl⟩ : ∃ m, k = m + 1 := ⟨k - 1, by omega⟩
    rw [List.take_of_length_le (by omega)] at hn
    have hm := index_none 47 _ hn
    have : netR s = none := by unfold netR cutB; rw [if_pos hm]; rfl
    rw [virgateref02_Parse.l0, if_neg (by omega), this]
  | succ d ih =>
    intro k i hd hk hi hn
    by_cases hie : i = s.size
    · exact ih k i (by omega) (by omega) hi hn
    obtain ⟨k, rfl⟩ : ∃ m, k = m + 1 := ⟨k - 1, by omega⟩
    obtain ⟨b, h1, h2, h3⟩ := bt_data s i (by omega)
    rw [virgateref02_Parse.l0, if_pos (by omega), if_pos (by omega), h2]
    by_cases hb : b = 47
    · subst hb
      obtain ⟨c1, c2, c3⟩ := cut_of 47 s (s.data.toList.take i) (s.data.toList.drop (i + 1)) (by rw [← h1, List.take_append_drop]) hn
      have e1 : ((i : Int) + 1).toNat = i + 1 := by omega
      have z1 : (s.extract 0 i).size ≤ s.size := by simp; omega
      have z2 : (s.extract (i + 1) s.size).size ≤ s.size := by simp
      rw [if_pos (show (((47 : UInt8).toNat : Int) = 47) from rfl), if_pos (by omega), Int.toNat_natCast, rparse_f _ (by omega) k (by omega), Option.bind_some, wrap64_id ((i : Int) + 1) (by omega) (by omega), if_pos (by omega), if_pos (by omega), e1, rval32_f _ (by omega) k (by omega), Option.bind_some]
      rw [Lib.extract_from_zero, Lib.extract_to_end]
      unfold netR
      rw [if_pos c3, c1, c2]
      cases hv : ipOf (s.data.toList.take i) with
      | none => rfl
      | some v =>
        rw [Option.bind_some]
        cases hq : byteOf (s.data.toList.drop (i + 1)) with
        | none => rfl
        | some n =>
          rw [Option.bind_some]
          by_cases hn2 : n ≤ 32
          · simp only [hn2, if_true, true_and]
            have hm := rmay_f v (ipOf_inv hv).2 (n : Int) k (by omega)
            rw [hm, Option.bind_some]
            by_cases hd2 : v % sz n = 0
            · rw [may_mk hn2 hd2, if_pos rfl, if_pos hd2]
            · have : mayN v (n : Int) = false := by simp [mayN, hd2]
              rw [this, if_neg hd2]
              rfl
          · simp [hn2]
    · have hne : ¬ ((b.toNat : Int) = 47) := by
        intro h
        exact hb (UInt8.toNat_inj.1 (by simpa using (by omega : b.toNat = 47)))
      rw [if_neg hne, wrap64_id ((i : Int) + 1) (by omega) (by omega)]
      refine ih k (i + 1) (by omega) (by omega) (by omega) ?_
      rw [List.take_add_one]
      have hg : s.data.toList[i]? = some b := by
        have := congrArg (fun l => l[0]?) h1
        simpa using this
      rw [hg]
      simp only [Option.toList_some, List.mem_append, List.mem_singleton, not_or]
      exact ⟨hn, fun e => hb e.symm⟩
theorem rp2_f (s : ByteArray) (hs : s.size < 1000000) (k : Nat) (hk : 4 * s.size + 60 ≤ k) : virgateref02_Parse.f k s = some (match netR s with | some (v, n) => ((v : Int), (n : Int), true) | none => (0, 0, false)) :=
  rp2_l0 s hs s.size k 0 (by omega) (by omega) (by omega) (by simp)
end Go.Proofs.YtcdopgkkieenjaaDoor.V
end

-- VE46
section
-- PRINTED by print.py (a twelfth state) out of the translation. Not trusted: Lean checks it.
namespace Go.Proofs.YtcdopgkkieenjaaDoor.V
open Go.RowKit Go.Proofs.YtcdopgkkieenjaaDoorW.PrintWords Go.Proofs.YtcdopgkkieenjaaDoorW.PrintLast Go.Proofs.YtcdopgkkieenjaaDoorW.PrintMore
attribute [local go_sem] max2_int min2_int max_two min_two max_three min_three max_four min_four   -- for this text's walks alone
set_option linter.unusedVariables false
set_option linter.unusedSimpArgs false

theorem eqA46 (d : Nat) (w : World) (x0 y0 : Int) (x1 y1 : Int) :
    (Op.equalIn (d + 2) 46 (.agg #[.int .u32 x0, .int .i64 x1]) (.agg #[.int .u32 y0, .int .i64 y1])).run Tryd.prog w = .ok (x0 == y0 && (x1 == y1)) w := by
  refine eqA_of Tryd.underlying46 (by kernel_rfl) ?_
  refine eqf_cons (by rfl) (by go_simp; rfl) (by go_simp; rfl) (by go_simp) ?_
  exact eqf_last (by rfl) (by go_simp; rfl) (by go_simp; rfl) (by go_simp)
end Go.Proofs.YtcdopgkkieenjaaDoor.V
end

