/- The law CidrHas for every input: texts of ours, put together (part 10 of 11). No further condition. -/
import Derived.Test.YtcdopgkkieenjaaDoorCCidrHasx7
import Derived.Test.YtcdopgkkieenjaaDoorCCidrHasx8
-- LCHas
/- CidrHas: the plain law and the walk. -/
namespace Go.Proofs.YtcdopgkkieenjaaDoor.V
open Go.RowKit Go.Proofs.YtcdopgkkieenjaaDoorW.PrintWords Go.Proofs.YtcdopgkkieenjaaDoorW.PrintLast Go.Proofs.YtcdopgkkieenjaaDoorW.PrintMore
set_option linter.unusedVariables false
set_option linter.unusedSimpArgs false
theorem lastN_may {a n : Nat} (hm : mayN a (n : Int) = true) : lastN a (n : Int) = a + sz n - 1 := by unfold lastN; rw [if_pos hm]; rfl
theorem has_j3 (a : Nat) (ha : a < 4294967296) (b : Int) (bits : Int) (k : Nat) (hk : 40 ≤ k) : virgatelaw02_CidrHas.j3 (k + 1) bits ((lastN a b : Nat) : Int) (cl bits : Int) (a : Int) b = some true := by
  have h1 := sz_pos (cl bits); have h2 := sz_le (cl bits); have h3 := cl_le bits
  rw [virgatelaw02_CidrHas.j3, last_f a ha, Option.bind_some, if_pos rfl, mask_f, Option.bind_some, show (32 : Int) = ((32 : Nat) : Int) from rfl, pow_f 32 (by omega) k (by omega), Option.bind_some, show ((32 : Nat) : Int) - (cl bits : Int) = ((32 - cl bits : Nat) : Int) by omega, wrap64_id _ (by omega) (by omega), pow_f (32 - cl bits) (by omega) k (by omega), Option.bind_some, show (2 : Nat) ^ (32 - cl bits) = sz (cl bits) from rfl, show (2 : Nat) ^ 32 = 4294967296 by decide, wrap64_id _ (by omega) (by omega), wrap64_id _ (by omega) (by omega), if_pos (by omega), awake02_f k (by omega)]
  rfl
theorem has_j1 (a : Nat) (ha : a < 4294967296) (b : Int) (bits : Int) (k : Nat) (hk : 40 ≤ k) : virgatelaw02_CidrHas.j1 (k + 3) bits ((lastN a b : Nat) : Int) (a : Int) b = some true := by
  have h := has_j3 a ha b bits k hk
  rw [virgatelaw02_CidrHas.j1]
  by_cases h1 : bits < 0
  · rw [if_pos h1, virgatelaw02_CidrHas.j2, if_neg (by decide)]
    rw [show (cl bits : Int) = 0 by unfold cl; rw [if_pos h1]; rfl] at h
    exact h
  · rw [if_neg h1, virgatelaw02_CidrHas.j2]
    by_cases h2 : bits > 32
    · rw [if_pos h2]
      rw [show (cl bits : Int) = 32 by unfold cl; rw [if_neg h1, if_pos h2]; rfl] at h
      exact h
    · rw [if_neg h2]
      rw [show (cl bits : Int) = bits by unfold cl; rw [if_neg h1, if_neg h2]; omega] at h
      exact h
theorem has_j0 (a : Nat) (ha : a < 4294967296) (b : Int) (bits : Int) (k : Nat) (hk : 43 ≤ k) : virgatelaw02_CidrHas.j0 (k + 1) bits false (a : Int) b (a : Int) b = some true := by
  obtain ⟨k, rfl⟩ : ∃ m, k = m + 3 := ⟨k - 3, by omega⟩
  have h := has_j1 a ha b bits k (by omega)
  rw [virgatelaw02_CidrHas.j0, if_neg (by decide), rmay_f a ha b _ (by omega), Option.bind_some]
  cases hm : mayN a b with
  | false =>
    rw [if_neg (by decide)]
    rw [show ((lastN a b : Nat) : Int) = 0 by unfold lastN; rw [hm]; rfl] at h
    exact h
  | true =>
    obtain ⟨n, rfl, hn, hd⟩ := may_nat hm
    have g1 := sz_pos n; have g2 := sz_le n; have g3 := net_end a n hd ha
    rw [if_pos rfl, rsize_f a ha _ _ (by omega), Option.bind_some]
    have hs : sizeN a (n : Int) = sz n := by unfold sizeN; rw [if_pos hm]; rfl
    rw [hs, wrap64_id (a : Int) (by omega) (by omega), wrap64_id ((a : Int) + (sz n : Int)) (by omega) (by omega), wrap64_id ((a : Int) + (sz n : Int) - 1) (by omega) (by omega)]
    rw [lastN_may hm] at h
    rw [show ((a : Int) + (sz n : Int) - 1) % 4294967296 = ((a + sz n - 1 : Nat) : Int) by omega]
    exact h
theorem cidrHas_law (a : Nat) (ha : a < 4294967296) (b : Int) (x : Nat) (hx : x < 4294967296) (bits : Int) : virgatelaw02_CidrHas.f 60 (a : Int) b (x : Int) bits = some true := by
  have h := has_j0 a ha b bits 59 (by omega)
  unfold virgatelaw02_CidrHas.f
  rw [ours_f, Option.bind_some, place_f a ha b x hx, Option.bind_some, size_f a ha, Option.bind_some, rsize_f a ha b 60 (by omega), Option.bind_some, if_pos rfl, has_f a ha b x hx, Option.bind_some, rhas_f a ha b x hx 60 (by omega), Option.bind_some, if_neg (by simp), Option.bind_some]
  cases hasN a b x with
  | true =>
    rw [wrap64_id (x : Int) (by omega) (by omega), wrap64_id (a : Int) (by omega) (by omega), wrap64_id ((x : Int) - a) (by omega) (by omega)]
    simp only [if_true, bne_self_eq_false, Bool.false_eq_true, if_false]
    exact h
  | false =>
    simp only [Bool.false_eq_true, if_false, bne_self_eq_false]
    exact h
theorem cidrHas_walk (v : Value) (x : Int × Int) (a1 a2 : Int) (w : World) (h : NetIs v x) (w1 : (Lit.int .u32 a1).wf = true) (w2 : (Lit.int .i64 a2).wf = true) : Calls Tryd.prog 13 #[v, .int .u32 a1, .int .i64 a2] w fun e w' => e = .returned (.bool true) ∧ Below w.heap.size w w' := by
  obtain ⟨rfl, v0, v1⟩ := h
  obtain ⟨a, b⟩ := x
  obtain ⟨n, rfl, hn⟩ := wf_u32 v0
  obtain ⟨m, rfl, hm⟩ := wf_u32 w1
  exact virgatelaw02_CidrHas.calls 60 _ _ _ _ true w (cidrHas_law n hn b m hm a2)
end Go.Proofs.YtcdopgkkieenjaaDoor.V
