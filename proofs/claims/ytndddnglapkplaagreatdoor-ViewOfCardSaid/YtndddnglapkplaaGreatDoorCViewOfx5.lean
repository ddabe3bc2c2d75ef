/- The law ViewOf for every input: texts of ours, put together (part 6 of 17). No further condition. -/
import Derived.Test.YtndddnglapkplaaGreatDoorCViewOfx2
import Derived.Test.YtndddnglapkplaaGreatDoorCViewOfx4
set_option linter.unusedVariables false
set_option linter.unusedSimpArgs false
set_option linter.unusedSectionVars false
open Go.RowKit Go.Proofs.YtndddnglapkplaaGreatDoorW.PrintWords Go.Proofs.YtndddnglapkplaaGreatDoorW.PrintLast Go.Proofs.YtndddnglapkplaaGreatDoorW.PrintMore Go.Proofs.YtndddnglapkplaaGreatDoor.Z
namespace Go.Proofs.YtndddnglapkplaaGreatDoor.Z
open Go.Proofs.YtndddnglapkplaaGreatDoor.V
class Mv (W W1 : World) (p : Prop) (q : outParam Prop) : Prop where
 st : Below W.heap.size W W1 → p → q
theorem mv {W W1 : World} {p q : Prop} [m : Mv W W1 p q] (hb : Below W.heap.size W W1) (h : Aside0 p) : Aside0 q := ⟨m.st hb h.out⟩
section
variable {W W1 w : World} {base g t : Nat} {v : Value} {b : Bk}
instance {α : Type} {d : Kd α} {e base : Nat} {ok : Nat → Prop} {v : Value} {xs : List α} : Mv W W1 (Kd.R d e W base ok v xs) (Kd.R d e W1 base ok v xs) := ⟨fun hb h => Kd.R_below h hb⟩
instance : Mv W W1 (Below w.heap.size w W) (Below w.heap.size w W1) := ⟨fun hb h => h.trans (hb.mono h.size)⟩
instance {cs : List Value} : Mv W W1 (bC W g cs t) (bC W1 g cs t) := ⟨fun hb h => h.below hb⟩
instance : Mv W W1 (D2 W base v b) (D2 W1 base v b) := ⟨fun hb h => h.below hb⟩
instance {A A' : Option Addr} {c c' : Nat} : Mv W W1 (BkR W b A c A' c') (BkR W1 b A c A' c') := ⟨fun hb h => h.below hb⟩
end
section
variable {w W W1 : World} {g g' t t' : Nat} {cs cs' : List Value}
theorem gr {α : Type} {d : Kd α} {e base : Nat} {ok : Nat → Prop} {v : Value} {xs : List α} (h : Aside0 (Kd.R d e W base ok v xs)) (hb : Aside0 (bC W g cs t)) (hg : W.grownBy W1 (some g)) (ht : ∀ q, q ∈ e :: d.E → q ≠ t := by decide) : Aside0 (Kd.R d e W1 base ok v xs) := ⟨bS h.out hb.out ht hg⟩
theorem gx (h : Aside0 (bC W g cs t)) (h' : Aside0 (bC W g' cs' t')) (hg : W.grownBy W1 (some g')) (ht : t ≠ t' := by decide) : Aside0 (bC W1 g cs t) := ⟨h.out.grown hg (fun e => by have e2 := Option.some.inj e; subst e2; have h1 := h.out; have h2 := h'.out; unfold bC at h1 h2; rw [h1] at h2; injection h2 with h2; injection h2 with _ h3; exact ht h3)⟩
theorem gn (h : Aside0 (bC W g cs t)) (hn : Aside0 (g ≠ g')) (hg : W.grownBy W1 (some g')) : Aside0 (bC W1 g cs t) := ⟨h.out.grown hg (fun e => hn.out (Option.some.inj e))⟩
theorem gm (h : Aside0 (bC W g cs t)) (hn : Aside0 (g' ≠ g)) (hg : W.grownBy W1 (some g')) : Aside0 (bC W1 g cs t) := ⟨h.out.grown hg (fun e => hn.out (Option.some.inj e).symm)⟩
theorem gb (h : Aside0 (Below w.heap.size w W)) (hn : Aside0 (w.heap.size ≤ g)) (hg : W.grownBy W1 (some g)) : Aside0 (Below w.heap.size w W1) := ⟨h.out.grown hg h.out.size (by intro k hk; cases hk; exact hn.out)⟩
theorem ge (h : Aside0 (Below w.heap.size w W)) (hg : W.heap.size ≤ g) : Aside0 (w.heap.size ≤ g) := ⟨Nat.le_trans h.out.size hg⟩
theorem ne (h : Aside0 (bC W g cs t)) (hg : W.heap.size ≤ g') : Aside0 (g ≠ g') := ⟨by have := h.out.lt; omega⟩
theorem lb {base k : Nat} (hb : Aside0 (base ≤ w.heap.size)) (h : Aside0 (Below k w W)) : base ≤ W.heap.size := Nat.le_trans hb.out h.out.size
theorem rr {α : Type} {d : Kd α} {e base : Nat} {ok : Nat → Prop} {A : Option Addr} {n c : Nat} {xs : List α} (h : Aside0 (Kd.R d e W base ok (.slice A n c) xs)) : Kd.C d W A xs.length xs ∧ n ≤ c := ⟨(Kd.R_reads' h.out).2.2, (Kd.R_reads' h.out).2.1⟩
end
end Go.Proofs.YtndddnglapkplaaGreatDoor.Z
