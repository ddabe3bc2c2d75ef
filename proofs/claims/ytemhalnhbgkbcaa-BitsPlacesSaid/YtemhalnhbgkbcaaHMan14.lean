/- Functions of layer 14 by hand, in the print's own form. -/
import Derived.Test.YtemhalnhbgkbcaaHLaw14
import Derived.Test.YtemhalnhbgkbcaaHR14Of
namespace Go.Proofs.Ytemhalnhbgkbcaa.V
open Go.RowKit Go.Proofs.YtemhalnhbgkbcaaW.PrintWords Go.Proofs.YtemhalnhbgkbcaaW.PrintLast Go.Proofs.YtemhalnhbgkbcaaW.PrintMore
def virgatelaw14_awake.f : Option Bool := some true
theorem virgatelaw14_awake.calls (r : Bool) (w : World) (h : virgatelaw14_awake.f = some r) : Calls Try.prog 17 #[] w fun e w' => e = .returned (.bool r) ∧ Below w.heap.size w w' := by
  obtain rfl := Option.some.inj h
  exact awake14_any w
def virgateref14_Of.f (l0 : List Int) : Option Int := some ((ofL l0 : Nat) : Int)
theorem virgateref14_Of.calls (A0 : Option Addr) (c0 : Nat) (l0 : List Int) (r : Int) (w : World) (hr0 : Kd.C (Kd.int .i64) w A0 l0.length l0) (hc0 : l0.length ≤ c0) (h : virgateref14_Of.f l0 = some r) :
    Calls Try.prog 22 #[.slice A0 l0.length c0] w fun e w' => e = .returned (.int .u64 r) ∧ Drawn0 w w' := by
  obtain rfl := Option.some.inj h
  exact r14_Of_any l0 A0 c0 hc0 w hr0
end Go.Proofs.Ytemhalnhbgkbcaa.V
