/- The law CidrParse for every input: texts of ours, put together (part 11 of 12). No further condition. -/
import Derived.Test.YtcdopgkkieenjaaDoorCD7
import Derived.Test.YtcdopgkkieenjaaDoorCCidrParsex8
import Derived.Test.YtcdopgkkieenjaaDoorCCidrParsex9
-- LCParse
/- CidrParse: the plain law and the walk. -/
namespace Go.Proofs.YtcdopgkkieenjaaDoor.V
open Go.RowKit Go.Proofs.YtcdopgkkieenjaaDoorW.PrintWords Go.Proofs.YtcdopgkkieenjaaDoorW.PrintLast Go.Proofs.YtcdopgkkieenjaaDoorW.PrintMore
set_option linter.unusedVariables false
set_option linter.unusedSimpArgs false
theorem cidrParse_j0 (s : ByteArray) (hs : s.size ≤ 40) (k : Nat) (hk : 300 ≤ k) : virgatelaw02_CidrParse.j0 (k + 1) s = some true := by
  have hp : cidr_Parse.f s = some (cidrR s) := by unfold cidr_Parse.f; rw [if_pos (by omega)]
  rw [virgatelaw02_CidrParse.j0, hp, Option.bind_some, rp2_f s (by omega) k (by omega), Option.bind_some, cidrR_eq, awake02_f k (by omega)]
  cases netR s with
  | some q =>
    obtain ⟨v, n⟩ := q
    rw [ours_f]
    simp
  | none =>
    rw [ours_f]
    simp
theorem cidrParse_law (s : ByteArray) : virgatelaw02_CidrParse.f 400 s = some true := by
  unfold virgatelaw02_CidrParse.f
  by_cases h : (s.size : Int) > 40
  · rw [if_pos h, if_pos (by omega), if_pos (by omega)]
    exact cidrParse_j0 _ (by simp; omega) 399 (by omega)
  · rw [if_neg h]
    exact cidrParse_j0 s (by omega) 399 (by omega)
theorem cidrParse_walk (a0 : ByteArray) (w : World) (w0 : a0.size ≤ 140737488351232) : Calls Tryd.prog 9 #[.string a0] w fun e w' => e = .returned (.bool true) ∧ Below w.heap.size w w' :=
  virgatelaw02_CidrParse.calls 400 _ true w (cidrParse_law a0)
end Go.Proofs.YtcdopgkkieenjaaDoor.V
