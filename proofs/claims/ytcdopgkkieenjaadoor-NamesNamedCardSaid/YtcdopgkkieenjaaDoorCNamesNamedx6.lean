/- Texts of ours that the claims of this seat share, put together (part 7). No further condition. -/
import Derived.Test.YtcdopgkkieenjaaDoorCNamesNamedx1
import Derived.Test.YtcdopgkkieenjaaDoorCNamesNamedx5
import Derived.Test.YtcdopgkkieenjaaDoorCNamesNamedx4
import Derived.Test.YtcdopgkkieenjaaDoorCNamesNamedx2
import Derived.Test.YtcdopgkkieenjaaDoorCNamesNamedx3
-- VFNamesHandle
section
-- PRINTED by print.py (a twelfth state) out of the translation. Not trusted: Lean checks it.
namespace Go.Proofs.YtcdopgkkieenjaaDoor.V
open Go.RowKit Go.Proofs.YtcdopgkkieenjaaDoorW.PrintWords Go.Proofs.YtcdopgkkieenjaaDoorW.PrintLast Go.Proofs.YtcdopgkkieenjaaDoorW.PrintMore
attribute [local go_sem] max2_int min2_int max_two min_two max_three min_three max_four min_four   -- for this text's walks alone
set_option linter.unusedVariables false
set_option linter.unusedSimpArgs false

/-! ### names_Handle: function 70 -/
def names_Handle.f (a0 : ByteArray) : Option (ByteArray × Int) := (names_named.f (⟨#[104, 97, 110, 100, 108, 101, 47]⟩ : ByteArray) a0).bind fun bt70101 => (some (bt70101.1, bt70101.2))
set_option maxHeartbeats 8000000 in
set_option maxRecDepth 100000 in
theorem names_Handle.calls (a0 : ByteArray) (r1 : ByteArray) (r2 : Int) (w : World) (h : names_Handle.f a0 = some (r1, r2)) :
    Calls Tryd.prog 70 #[.string a0] w fun e w' => e = .returned (.tuple #[.string r1, .int .i64 r2]) ∧ Below w.heap.size w w' := by
  have HB := Aside0.mk (Below.refl w.heap.size w)
  have H : ((names_named.f (⟨#[104, 97, 110, 100, 108, 101, 47]⟩ : ByteArray) a0).bind fun bt70101 => (some (bt70101.1, bt70101.2))) = some (r1, r2) := h
  clear h
  replace H := Option.bind_eq_some_iff.mp H
  obtain ⟨⟨t70101, t70102⟩, A20, H⟩ := H
  replace H : (some (t70101, t70102)) = some (r1, r2) := H
  have A2 := Aside0.mk A20
  clear A20
  simp only [Option.some.injEq, Prod.mk.injEq] at H
  obtain ⟨rfl, rfl⟩ := H
  go_enter Tryd.func70, Tryd.ntmps70
  go_wp2_with (first | ((with_reducible refine gate_callee (f := 90) rfl ?_); refine goesL_ (some 5) rfl rfl Tryd.func90 (by kernel_rfl) rfl #[.string (⟨#[104, 97, 110, 100, 108, 101, 47]⟩ : ByteArray), .string a0] rfl (by (try simp only [List.map_toArray, List.map_cons, List.map_nil]); first | done | rfl | (simp only [List.length_drop, List.length_take]; rfl)) ?_; (with_reducible refine (names_named.calls (⟨#[104, 97, 110, 100, 108, 101, 47]⟩ : ByteArray) a0 t70101 t70102 _ A2.out).mono ?_); rintro e w3 ⟨rfl, hb⟩; refine ⟨_, rfl, ?_⟩; have n0_ := Aside0.mk (below_step (by repeat (first | (with_reducible first | exact HB.out | apply below_alloc | apply pw_below_drewN | apply below_drew1) | exact HB.out)) hb); clear HB; have HB := n0_; clear n0_; (try clear hb); (try clear hb2); (try clear hk); (try clear hi)))
  go_ret2
  exact ⟨by first | rfl | (simp [errW_none, errW_some] <;> rfl) | (simp [*, errW_none, errW_some] <;> rfl), by repeat (first | (with_reducible first | exact HB.out | apply below_alloc | apply pw_below_drewN | apply below_drew1) | exact HB.out)⟩
end Go.Proofs.YtcdopgkkieenjaaDoor.V
end

-- VFNamesNode
section
-- PRINTED by print.py (a twelfth state) out of the translation. Not trusted: Lean checks it.
namespace Go.Proofs.YtcdopgkkieenjaaDoor.V
open Go.RowKit Go.Proofs.YtcdopgkkieenjaaDoorW.PrintWords Go.Proofs.YtcdopgkkieenjaaDoorW.PrintLast Go.Proofs.YtcdopgkkieenjaaDoorW.PrintMore
attribute [local go_sem] max2_int min2_int max_two min_two max_three min_three max_four min_four   -- for this text's walks alone
set_option linter.unusedVariables false
set_option linter.unusedSimpArgs false

/-! ### names_Node: function 71 -/
def names_Node.f (a0 : ByteArray) : Option (ByteArray × Int) := (names_named.f (⟨#[110, 111, 100, 101, 47]⟩ : ByteArray) a0).bind fun bt71101 => (some (bt71101.1, bt71101.2))
set_option maxHeartbeats 8000000 in
set_option maxRecDepth 100000 in
theorem names_Node.calls (a0 : ByteArray) (r1 : ByteArray) (r2 : Int) (w : World) (h : names_Node.f a0 = some (r1, r2)) :
    Calls Tryd.prog 71 #[.string a0] w fun e w' => e = .returned (.tuple #[.string r1, .int .i64 r2]) ∧ Below w.heap.size w w' := by
  have HB := Aside0.mk (Below.refl w.heap.size w)
  have H : ((names_named.f (⟨#[110, 111, 100, 101, 47]⟩ : ByteArray) a0).bind fun bt71101 => (some (bt71101.1, bt71101.2))) = some (r1, r2) := h
  clear h
  replace H := Option.bind_eq_some_iff.mp H
  obtain ⟨⟨t71101, t71102⟩, A20, H⟩ := H
  replace H : (some (t71101, t71102)) = some (r1, r2) := H
  have A2 := Aside0.mk A20
  clear A20
  simp only [Option.some.injEq, Prod.mk.injEq] at H
  obtain ⟨rfl, rfl⟩ := H
  go_enter Tryd.func71, Tryd.ntmps71
  go_wp2_with (first | ((with_reducible refine gate_callee (f := 90) rfl ?_); refine goesL_ (some 5) rfl rfl Tryd.func90 (by kernel_rfl) rfl #[.string (⟨#[110, 111, 100, 101, 47]⟩ : ByteArray), .string a0] rfl (by (try simp only [List.map_toArray, List.map_cons, List.map_nil]); first | done | rfl | (simp only [List.length_drop, List.length_take]; rfl)) ?_; (with_reducible refine (names_named.calls (⟨#[110, 111, 100, 101, 47]⟩ : ByteArray) a0 t71101 t71102 _ A2.out).mono ?_); rintro e w3 ⟨rfl, hb⟩; refine ⟨_, rfl, ?_⟩; have n0_ := Aside0.mk (below_step (by repeat (first | (with_reducible first | exact HB.out | apply below_alloc | apply pw_below_drewN | apply below_drew1) | exact HB.out)) hb); clear HB; have HB := n0_; clear n0_; (try clear hb); (try clear hb2); (try clear hk); (try clear hi)))
  go_ret2
  exact ⟨by first | rfl | (simp [errW_none, errW_some] <;> rfl) | (simp [*, errW_none, errW_some] <;> rfl), by repeat (first | (with_reducible first | exact HB.out | apply below_alloc | apply pw_below_drewN | apply below_drew1) | exact HB.out)⟩
end Go.Proofs.YtcdopgkkieenjaaDoor.V
end

-- VFNamesOfname
section
-- PRINTED by print.py (a twelfth state) out of the translation. Not trusted: Lean checks it.
namespace Go.Proofs.YtcdopgkkieenjaaDoor.V
open Go.RowKit Go.Proofs.YtcdopgkkieenjaaDoorW.PrintWords Go.Proofs.YtcdopgkkieenjaaDoorW.PrintLast Go.Proofs.YtcdopgkkieenjaaDoorW.PrintMore
attribute [local go_sem] max2_int min2_int max_two min_two max_three min_three max_four min_four   -- for this text's walks alone
set_option linter.unusedVariables false
set_option linter.unusedSimpArgs false

/-! ### names_ofName: function 89 -/
def names_ofName.f (a0 : ByteArray) (a1 : ByteArray) : Option (ByteArray × Bool) := (strings_CutPrefix.f a0 a1).bind fun bt89101 => (if bt89101.2 = true then ((names_Right.f bt89101.1).bind fun t89103 => (if t89103 = true then (some (bt89101.1, true)) else (some ((⟨#[]⟩ : ByteArray), false)))) else (some ((⟨#[]⟩ : ByteArray), false)))
set_option maxHeartbeats 8000000 in
set_option maxRecDepth 100000 in
theorem names_ofName.calls (a0 : ByteArray) (a1 : ByteArray) (r1 : ByteArray) (r2 : Bool) (w : World) (h : names_ofName.f a0 a1 = some (r1, r2)) :
    Calls Tryd.prog 89 #[.string a0, .string a1] w fun e w' => e = .returned (.tuple #[.string r1, .bool r2]) ∧ Below w.heap.size w w' := by
  have HB := Aside0.mk (Below.refl w.heap.size w)
  have H : ((strings_CutPrefix.f a0 a1).bind fun bt89101 => (if bt89101.2 = true then ((names_Right.f bt89101.1).bind fun t89103 => (if t89103 = true then (some (bt89101.1, true)) else (some ((⟨#[]⟩ : ByteArray), false)))) else (some ((⟨#[]⟩ : ByteArray), false)))) = some (r1, r2) := h
  clear h
  replace H := Option.bind_eq_some_iff.mp H
  obtain ⟨⟨t89101, t89102⟩, A30, H⟩ := H
  replace H : (if t89102 = true then ((names_Right.f t89101).bind fun t89103 => (if t89103 = true then (some (t89101, true)) else (some ((⟨#[]⟩ : ByteArray), false)))) else (some ((⟨#[]⟩ : ByteArray), false))) = some (r1, r2) := H
  have A3 := Aside0.mk A30
  clear A30
  by_cases c4 : t89102 = true
  · subst c4
    have H1 : ((names_Right.f t89101).bind fun t89103 => (if t89103 = true then (some (t89101, true)) else (some ((⟨#[]⟩ : ByteArray), false)))) = some (r1, r2) := by rw [if_pos rfl] at H; exact H
    clear H
    have H := H1
    clear H1
    replace H := Option.bind_eq_some_iff.mp H
    obtain ⟨t89103, A50, H⟩ := H
    replace H : (if t89103 = true then (some (t89101, true)) else (some ((⟨#[]⟩ : ByteArray), false))) = some (r1, r2) := H
    have A5 := Aside0.mk A50
    clear A50
    by_cases c6 : t89103 = true
    · subst c6
      have H1 : (some (t89101, true)) = some (r1, r2) := by rw [if_pos rfl] at H; exact H
      clear H
      have H := H1
      clear H1
      simp only [Option.some.injEq, Prod.mk.injEq] at H
      obtain ⟨rfl, rfl⟩ := H
      go_enter Tryd.func89, Tryd.ntmps89
      go_wp2_with (first | ((with_reducible refine gate_callee (f := 85) rfl ?_); refine goesL_ (some 11) rfl rfl Tryd.func85 (by kernel_rfl) rfl #[.string a0, .string a1] rfl (by (try simp only [List.map_toArray, List.map_cons, List.map_nil]); first | done | rfl | (simp only [List.length_drop, List.length_take]; rfl)) ?_; (with_reducible refine (strings_CutPrefix.calls a0 a1 t89101 true _ A3.out).mono ?_); rintro e w' ⟨rfl, ⟨nd, rfl⟩⟩; refine ⟨_, rfl, ?_⟩) | (go_at_call 73; (with_reducible refine (names_Right.calls t89101 true _ A5.out).mono ?_); rintro e w7 ⟨rfl, hb⟩; have n0_ := Aside0.mk (below_step (by repeat (first | (with_reducible first | exact HB.out | apply below_alloc | apply pw_below_drewN | apply below_drew1) | exact HB.out)) hb); clear HB; have HB := n0_; clear n0_; (try clear hb); (try clear hb2); (try clear hk); (try clear hi)))
      go_ret2
      exact ⟨by first | rfl | (simp [errW_none, errW_some] <;> rfl) | (simp [*, errW_none, errW_some] <;> rfl), by repeat (first | (with_reducible first | exact HB.out | apply below_alloc | apply pw_below_drewN | apply below_drew1) | exact HB.out)⟩
    · replace c6 := Bool.eq_false_iff.mpr c6
      subst c6
      have H1 : (some ((⟨#[]⟩ : ByteArray), false)) = some (r1, r2) := by rw [if_neg (show ¬ (false = true) by decide)] at H; exact H
      clear H
      have H := H1
      clear H1
      simp only [Option.some.injEq, Prod.mk.injEq] at H
      obtain ⟨rfl, rfl⟩ := H
      go_enter Tryd.func89, Tryd.ntmps89
      go_wp2_with (first | ((with_reducible refine gate_callee (f := 85) rfl ?_); refine goesL_ (some 11) rfl rfl Tryd.func85 (by kernel_rfl) rfl #[.string a0, .string a1] rfl (by (try simp only [List.map_toArray, List.map_cons, List.map_nil]); first | done | rfl | (simp only [List.length_drop, List.length_take]; rfl)) ?_; (with_reducible refine (strings_CutPrefix.calls a0 a1 t89101 true _ A3.out).mono ?_); rintro e w' ⟨rfl, ⟨nd, rfl⟩⟩; refine ⟨_, rfl, ?_⟩) | (go_at_call 73; (with_reducible refine (names_Right.calls t89101 false _ A5.out).mono ?_); rintro e w8 ⟨rfl, hb⟩; have n0_ := Aside0.mk (below_step (by repeat (first | (with_reducible first | exact HB.out | apply below_alloc | apply pw_below_drewN | apply below_drew1) | exact HB.out)) hb); clear HB; have HB := n0_; clear n0_; (try clear hb); (try clear hb2); (try clear hk); (try clear hi)))
      go_ret2
      exact ⟨by first | rfl | (simp [errW_none, errW_some] <;> rfl) | (simp [*, errW_none, errW_some] <;> rfl), by repeat (first | (with_reducible first | exact HB.out | apply below_alloc | apply pw_below_drewN | apply below_drew1) | exact HB.out)⟩
  · replace c4 := Bool.eq_false_iff.mpr c4
    subst c4
    have H1 : (some ((⟨#[]⟩ : ByteArray), false)) = some (r1, r2) := by rw [if_neg (show ¬ (false = true) by decide)] at H; exact H
    clear H
    have H := H1
    clear H1
    simp only [Option.some.injEq, Prod.mk.injEq] at H
    obtain ⟨rfl, rfl⟩ := H
    go_enter Tryd.func89, Tryd.ntmps89
    go_wp2_with (first | ((with_reducible refine gate_callee (f := 85) rfl ?_); refine goesL_ (some 11) rfl rfl Tryd.func85 (by kernel_rfl) rfl #[.string a0, .string a1] rfl (by (try simp only [List.map_toArray, List.map_cons, List.map_nil]); first | done | rfl | (simp only [List.length_drop, List.length_take]; rfl)) ?_; (with_reducible refine (strings_CutPrefix.calls a0 a1 t89101 false _ A3.out).mono ?_); rintro e w' ⟨rfl, ⟨nd, rfl⟩⟩; refine ⟨_, rfl, ?_⟩))
    go_ret2
    exact ⟨by first | rfl | (simp [errW_none, errW_some] <;> rfl) | (simp [*, errW_none, errW_some] <;> rfl), by repeat (first | (with_reducible first | exact HB.out | apply below_alloc | apply pw_below_drewN | apply below_drew1) | exact HB.out)⟩
end Go.Proofs.YtcdopgkkieenjaaDoor.V
end

-- VFNamesOfaff
section
-- PRINTED by print.py (a twelfth state) out of the translation. Not trusted: Lean checks it.
namespace Go.Proofs.YtcdopgkkieenjaaDoor.V
open Go.RowKit Go.Proofs.YtcdopgkkieenjaaDoorW.PrintWords Go.Proofs.YtcdopgkkieenjaaDoorW.PrintLast Go.Proofs.YtcdopgkkieenjaaDoorW.PrintMore
attribute [local go_sem] max2_int min2_int max_two min_two max_three min_three max_four min_four   -- for this text's walks alone
set_option linter.unusedVariables false
set_option linter.unusedSimpArgs false

/-! ### names_OfAff: function 64 -/
def names_OfAff.f (k : Nat) (a0 : ByteArray) : Option (ByteArray × Int × Bool) := (strings_CutPrefix.f a0 (⟨#[97, 102, 102, 47]⟩ : ByteArray)).bind fun bt64101 => ((strings_Cut.f bt64101.1 (⟨#[47]⟩ : ByteArray)).bind fun bt64103 => ((names_ofBlock.f k bt64103.2.1).bind fun bt64106 => (if bt64101.2 = true then (if bt64106.2 = true then ((names_Right.f bt64103.1).bind fun t64108 => (if t64108 = true then (some (bt64103.1, bt64106.1, true)) else (some ((⟨#[]⟩ : ByteArray), 0, false)))) else (some ((⟨#[]⟩ : ByteArray), 0, false))) else (some ((⟨#[]⟩ : ByteArray), 0, false)))))
theorem names_OfAff.mono : ∀ a0 k, LeO (names_OfAff.f k a0) (names_OfAff.f (k + 1) a0) := by
  intro a0 k
  unfold names_OfAff.f
  repeat' first
      | (with_reducible exact names_ofBlock.mono _ _)
      | (with_reducible exact LeO.refl _)
      | (with_reducible exact LeO.none _)
      | (with_reducible refine LeO.ite ?_ ?_)
      | (with_reducible refine LeO.bind ?_ (fun _ => ?_))
      | exact names_ofBlock.mono _ _
      | exact LeO.none _
      | refine LeO.ite ?_ ?_
      | refine LeO.bind ?_ (fun _ => ?_)
set_option maxHeartbeats 8000000 in
set_option maxRecDepth 100000 in
theorem names_OfAff.calls (k : Nat) (a0 : ByteArray) (r1 : ByteArray) (r2 : Int) (r3 : Bool) (w : World) (h : names_OfAff.f k a0 = some (r1, r2, r3)) :
    Calls Tryd.prog 64 #[.string a0] w fun e w' => e = .returned (.tuple #[.string r1, .int .u32 r2, .bool r3]) ∧ Below w.heap.size w w' := by
  have HB := Aside0.mk (Below.refl w.heap.size w)
  have H : ((strings_CutPrefix.f a0 (⟨#[97, 102, 102, 47]⟩ : ByteArray)).bind fun bt64101 => ((strings_Cut.f bt64101.1 (⟨#[47]⟩ : ByteArray)).bind fun bt64103 => ((names_ofBlock.f k bt64103.2.1).bind fun bt64106 => (if bt64101.2 = true then (if bt64106.2 = true then ((names_Right.f bt64103.1).bind fun t64108 => (if t64108 = true then (some (bt64103.1, bt64106.1, true)) else (some ((⟨#[]⟩ : ByteArray), 0, false)))) else (some ((⟨#[]⟩ : ByteArray), 0, false))) else (some ((⟨#[]⟩ : ByteArray), 0, false)))))) = some (r1, r2, r3) := h
  clear h
  replace H := Option.bind_eq_some_iff.mp H
  obtain ⟨⟨t64101, t64102⟩, A20, H⟩ := H
  replace H : ((strings_Cut.f t64101 (⟨#[47]⟩ : ByteArray)).bind fun bt64103 => ((names_ofBlock.f k bt64103.2.1).bind fun bt64106 => (if t64102 = true then (if bt64106.2 = true then ((names_Right.f bt64103.1).bind fun t64108 => (if t64108 = true then (some (bt64103.1, bt64106.1, true)) else (some ((⟨#[]⟩ : ByteArray), 0, false)))) else (some ((⟨#[]⟩ : ByteArray), 0, false))) else (some ((⟨#[]⟩ : ByteArray), 0, false))))) = some (r1, r2, r3) := H
  have A2 := Aside0.mk A20
  clear A20
  replace H := Option.bind_eq_some_iff.mp H
  obtain ⟨⟨t64103, t64104, t64105⟩, A30, H⟩ := H
  replace H : ((names_ofBlock.f k t64104).bind fun bt64106 => (if t64102 = true then (if bt64106.2 = true then ((names_Right.f t64103).bind fun t64108 => (if t64108 = true then (some (t64103, bt64106.1, true)) else (some ((⟨#[]⟩ : ByteArray), 0, false)))) else (some ((⟨#[]⟩ : ByteArray), 0, false))) else (some ((⟨#[]⟩ : ByteArray), 0, false)))) = some (r1, r2, r3) := H
  have A3 := Aside0.mk A30
  clear A30
  replace H := Option.bind_eq_some_iff.mp H
  obtain ⟨⟨t64106, t64107⟩, A40, H⟩ := H
  replace H : (if t64102 = true then (if t64107 = true then ((names_Right.f t64103).bind fun t64108 => (if t64108 = true then (some (t64103, t64106, true)) else (some ((⟨#[]⟩ : ByteArray), 0, false)))) else (some ((⟨#[]⟩ : ByteArray), 0, false))) else (some ((⟨#[]⟩ : ByteArray), 0, false))) = some (r1, r2, r3) := H
  have A4 := Aside0.mk A40
  clear A40
  by_cases c5 : t64102 = true
  · subst c5
    have H1 : (if t64107 = true then ((names_Right.f t64103).bind fun t64108 => (if t64108 = true then (some (t64103, t64106, true)) else (some ((⟨#[]⟩ : ByteArray), 0, false)))) else (some ((⟨#[]⟩ : ByteArray), 0, false))) = some (r1, r2, r3) := by rw [if_pos rfl] at H; exact H
    clear H
    have H := H1
    clear H1
    by_cases c6 : t64107 = true
    · subst c6
      have H1 : ((names_Right.f t64103).bind fun t64108 => (if t64108 = true then (some (t64103, t64106, true)) else (some ((⟨#[]⟩ : ByteArray), 0, false)))) = some (r1, r2, r3) := by rw [if_pos rfl] at H; exact H
      clear H
      have H := H1
      clear H1
      replace H := Option.bind_eq_some_iff.mp H
      obtain ⟨t64108, A70, H⟩ := H
      replace H : (if t64108 = true then (some (t64103, t64106, true)) else (some ((⟨#[]⟩ : ByteArray), 0, false))) = some (r1, r2, r3) := H
      have A7 := Aside0.mk A70
      clear A70
      by_cases c8 : t64108 = true
      · subst c8
        have H1 : (some (t64103, t64106, true)) = some (r1, r2, r3) := by rw [if_pos rfl] at H; exact H
        clear H
        have H := H1
        clear H1
        simp only [Option.some.injEq, Prod.mk.injEq] at H
        obtain ⟨rfl, rfl, rfl⟩ := H
        go_enter Tryd.func64, Tryd.ntmps64
        go_wp2_with (first | ((with_reducible refine gate_callee (f := 85) rfl ?_); refine goesL_ (some 14) rfl rfl Tryd.func85 (by kernel_rfl) rfl #[.string a0, .string (⟨#[97, 102, 102, 47]⟩ : ByteArray)] rfl (by (try simp only [List.map_toArray, List.map_cons, List.map_nil]); first | done | rfl | (simp only [List.length_drop, List.length_take]; rfl)) ?_; (with_reducible refine (strings_CutPrefix.calls a0 (⟨#[97, 102, 102, 47]⟩ : ByteArray) t64101 true _ A2.out).mono ?_); rintro e w' ⟨rfl, ⟨nd, rfl⟩⟩; refine ⟨_, rfl, ?_⟩) | ((with_reducible refine gate_callee (f := 82) rfl ?_); refine goesL_ (some 19) rfl rfl Tryd.func82 (by kernel_rfl) rfl #[.string t64101, .string (⟨#[47]⟩ : ByteArray)] rfl (by (try simp only [List.map_toArray, List.map_cons, List.map_nil]); first | done | rfl | (simp only [List.length_drop, List.length_take]; rfl)) ?_; (with_reducible refine (strings_Cut.calls t64101 (⟨#[47]⟩ : ByteArray) t64103 t64104 t64105 _ A3.out).mono ?_); rintro e w9 ⟨rfl, hb⟩; refine ⟨_, rfl, ?_⟩; have n0_ := Aside0.mk (below_step (by repeat (first | (with_reducible first | exact HB.out | apply below_alloc | apply pw_below_drewN | apply below_drew1) | exact HB.out)) hb); clear HB; have HB := n0_; clear n0_; (try clear hb); (try clear hb2); (try clear hk); (try clear hi)) | ((with_reducible refine gate_callee (f := 87) rfl ?_); refine goesL_ (some 25) rfl rfl Tryd.func87 (by kernel_rfl) rfl #[.string t64104] rfl (by (try simp only [List.map_toArray, List.map_cons, List.map_nil]); first | done | rfl | (simp only [List.length_drop, List.length_take]; rfl)) ?_; (with_reducible refine (names_ofBlock.calls k t64104 t64106 true _ A4.out).mono ?_); rintro e w10 ⟨rfl, hb⟩; refine ⟨_, rfl, ?_⟩; have n0_ := Aside0.mk (below_step (by repeat (first | (with_reducible first | exact HB.out | apply below_alloc | apply pw_below_drewN | apply below_drew1) | exact HB.out)) hb); clear HB; have HB := n0_; clear n0_; (try clear hb); (try clear hb2); (try clear hk); (try clear hi)) | (go_at_call 73; (with_reducible refine (names_Right.calls t64103 true _ A7.out).mono ?_); rintro e w11 ⟨rfl, hb⟩; have n0_ := Aside0.mk (below_step (by repeat (first | (with_reducible first | exact HB.out | apply below_alloc | apply pw_below_drewN | apply below_drew1) | exact HB.out)) hb); clear HB; have HB := n0_; clear n0_; (try clear hb); (try clear hb2); (try clear hk); (try clear hi)))
        go_ret3
        exact ⟨by first | rfl | (simp [errW_none, errW_some] <;> rfl) | (simp [*, errW_none, errW_some] <;> rfl), by repeat (first | (with_reducible first | exact HB.out | apply below_alloc | apply pw_below_drewN | apply below_drew1) | exact HB.out)⟩
      · replace c8 := Bool.eq_false_iff.mpr c8
        subst c8
        have H1 : (some ((⟨#[]⟩ : ByteArray), 0, false)) = some (r1, r2, r3) := by rw [if_neg (show ¬ (false = true) by decide)] at H; exact H
        clear H
        have H := H1
        clear H1
        simp only [Option.some.injEq, Prod.mk.injEq] at H
        obtain ⟨rfl, rfl, rfl⟩ := H
        go_enter Tryd.func64, Tryd.ntmps64
        go_wp2_with (first | ((with_reducible refine gate_callee (f := 85) rfl ?_); refine goesL_ (some 14) rfl rfl Tryd.func85 (by kernel_rfl) rfl #[.string a0, .string (⟨#[97, 102, 102, 47]⟩ : ByteArray)] rfl (by (try simp only [List.map_toArray, List.map_cons, List.map_nil]); first | done | rfl | (simp only [List.length_drop, List.length_take]; rfl)) ?_; (with_reducible refine (strings_CutPrefix.calls a0 (⟨#[97, 102, 102, 47]⟩ : ByteArray) t64101 true _ A2.out).mono ?_); rintro e w' ⟨rfl, ⟨nd, rfl⟩⟩; refine ⟨_, rfl, ?_⟩) | ((with_reducible refine gate_callee (f := 82) rfl ?_); refine goesL_ (some 19) rfl rfl Tryd.func82 (by kernel_rfl) rfl #[.string t64101, .string (⟨#[47]⟩ : ByteArray)] rfl (by (try simp only [List.map_toArray, List.map_cons, List.map_nil]); first | done | rfl | (simp only [List.length_drop, List.length_take]; rfl)) ?_; (with_reducible refine (strings_Cut.calls t64101 (⟨#[47]⟩ : ByteArray) t64103 t64104 t64105 _ A3.out).mono ?_); rintro e w12 ⟨rfl, hb⟩; refine ⟨_, rfl, ?_⟩; have n0_ := Aside0.mk (below_step (by repeat (first | (with_reducible first | exact HB.out | apply below_alloc | apply pw_below_drewN | apply below_drew1) | exact HB.out)) hb); clear HB; have HB := n0_; clear n0_; (try clear hb); (try clear hb2); (try clear hk); (try clear hi)) | ((with_reducible refine gate_callee (f := 87) rfl ?_); refine goesL_ (some 25) rfl rfl Tryd.func87 (by kernel_rfl) rfl #[.string t64104] rfl (by (try simp only [List.map_toArray, List.map_cons, List.map_nil]); first | done | rfl | (simp only [List.length_drop, List.length_take]; rfl)) ?_; (with_reducible refine (names_ofBlock.calls k t64104 t64106 true _ A4.out).mono ?_); rintro e w13 ⟨rfl, hb⟩; refine ⟨_, rfl, ?_⟩; have n0_ := Aside0.mk (below_step (by repeat (first | (with_reducible first | exact HB.out | apply below_alloc | apply pw_below_drewN | apply below_drew1) | exact HB.out)) hb); clear HB; have HB := n0_; clear n0_; (try clear hb); (try clear hb2); (try clear hk); (try clear hi)) | (go_at_call 73; (with_reducible refine (names_Right.calls t64103 false _ A7.out).mono ?_); rintro e w14 ⟨rfl, hb⟩; have n0_ := Aside0.mk (below_step (by repeat (first | (with_reducible first | exact HB.out | apply below_alloc | apply pw_below_drewN | apply below_drew1) | exact HB.out)) hb); clear HB; have HB := n0_; clear n0_; (try clear hb); (try clear hb2); (try clear hk); (try clear hi)))
        go_ret3
        exact ⟨by first | rfl | (simp [errW_none, errW_some] <;> rfl) | (simp [*, errW_none, errW_some] <;> rfl), by repeat (first | (with_reducible first | exact HB.out | apply below_alloc | apply pw_below_drewN | apply below_drew1) | exact HB.out)⟩
    · replace c6 := Bool.eq_false_iff.mpr c6
      subst c6
      have H1 : (some ((⟨#[]⟩ : ByteArray), 0, false)) = some (r1, r2, r3) := by rw [if_neg (show ¬ (false = true) by decide)] at H; exact H
      clear H
      have H := H1
      clear H1
      simp only [Option.some.injEq, Prod.mk.injEq] at H
      obtain ⟨rfl, rfl, rfl⟩ := H
      go_enter Tryd.func64, Tryd.ntmps64
      go_wp2_with (first | ((with_reducible refine gate_callee (f := 85) rfl ?_); refine goesL_ (some 14) rfl rfl Tryd.func85 (by kernel_rfl) rfl #[.string a0, .string (⟨#[97, 102, 102, 47]⟩ : ByteArray)] rfl (by (try simp only [List.map_toArray, List.map_cons, List.map_nil]); first | done | rfl | (simp only [List.length_drop, List.length_take]; rfl)) ?_; (with_reducible refine (strings_CutPrefix.calls a0 (⟨#[97, 102, 102, 47]⟩ : ByteArray) t64101 true _ A2.out).mono ?_); rintro e w' ⟨rfl, ⟨nd, rfl⟩⟩; refine ⟨_, rfl, ?_⟩) | ((with_reducible refine gate_callee (f := 82) rfl ?_); refine goesL_ (some 19) rfl rfl Tryd.func82 (by kernel_rfl) rfl #[.string t64101, .string (⟨#[47]⟩ : ByteArray)] rfl (by (try simp only [List.map_toArray, List.map_cons, List.map_nil]); first | done | rfl | (simp only [List.length_drop, List.length_take]; rfl)) ?_; (with_reducible refine (strings_Cut.calls t64101 (⟨#[47]⟩ : ByteArray) t64103 t64104 t64105 _ A3.out).mono ?_); rintro e w15 ⟨rfl, hb⟩; refine ⟨_, rfl, ?_⟩; have n0_ := Aside0.mk (below_step (by repeat (first | (with_reducible first | exact HB.out | apply below_alloc | apply pw_below_drewN | apply below_drew1) | exact HB.out)) hb); clear HB; have HB := n0_; clear n0_; (try clear hb); (try clear hb2); (try clear hk); (try clear hi)) | ((with_reducible refine gate_callee (f := 87) rfl ?_); refine goesL_ (some 25) rfl rfl Tryd.func87 (by kernel_rfl) rfl #[.string t64104] rfl (by (try simp only [List.map_toArray, List.map_cons, List.map_nil]); first | done | rfl | (simp only [List.length_drop, List.length_take]; rfl)) ?_; (with_reducible refine (names_ofBlock.calls k t64104 t64106 false _ A4.out).mono ?_); rintro e w16 ⟨rfl, hb⟩; refine ⟨_, rfl, ?_⟩; have n0_ := Aside0.mk (below_step (by repeat (first | (with_reducible first | exact HB.out | apply below_alloc | apply pw_below_drewN | apply below_drew1) | exact HB.out)) hb); clear HB; have HB := n0_; clear n0_; (try clear hb); (try clear hb2); (try clear hk); (try clear hi)))
      go_ret3
      exact ⟨by first | rfl | (simp [errW_none, errW_some] <;> rfl) | (simp [*, errW_none, errW_some] <;> rfl), by repeat (first | (with_reducible first | exact HB.out | apply below_alloc | apply pw_below_drewN | apply below_drew1) | exact HB.out)⟩
  · replace c5 := Bool.eq_false_iff.mpr c5
    subst c5
    have H1 : (some ((⟨#[]⟩ : ByteArray), 0, false)) = some (r1, r2, r3) := by rw [if_neg (show ¬ (false = true) by decide)] at H; exact H
    clear H
    have H := H1
    clear H1
    simp only [Option.some.injEq, Prod.mk.injEq] at H
    obtain ⟨rfl, rfl, rfl⟩ := H
    go_enter Tryd.func64, Tryd.ntmps64
    go_wp2_with (first | ((with_reducible refine gate_callee (f := 85) rfl ?_); refine goesL_ (some 14) rfl rfl Tryd.func85 (by kernel_rfl) rfl #[.string a0, .string (⟨#[97, 102, 102, 47]⟩ : ByteArray)] rfl (by (try simp only [List.map_toArray, List.map_cons, List.map_nil]); first | done | rfl | (simp only [List.length_drop, List.length_take]; rfl)) ?_; (with_reducible refine (strings_CutPrefix.calls a0 (⟨#[97, 102, 102, 47]⟩ : ByteArray) t64101 false _ A2.out).mono ?_); rintro e w' ⟨rfl, ⟨nd, rfl⟩⟩; refine ⟨_, rfl, ?_⟩) | ((with_reducible refine gate_callee (f := 82) rfl ?_); refine goesL_ (some 19) rfl rfl Tryd.func82 (by kernel_rfl) rfl #[.string t64101, .string (⟨#[47]⟩ : ByteArray)] rfl (by (try simp only [List.map_toArray, List.map_cons, List.map_nil]); first | done | rfl | (simp only [List.length_drop, List.length_take]; rfl)) ?_; (with_reducible refine (strings_Cut.calls t64101 (⟨#[47]⟩ : ByteArray) t64103 t64104 t64105 _ A3.out).mono ?_); rintro e w17 ⟨rfl, hb⟩; refine ⟨_, rfl, ?_⟩; have n0_ := Aside0.mk (below_step (by repeat (first | (with_reducible first | exact HB.out | apply below_alloc | apply pw_below_drewN | apply below_drew1) | exact HB.out)) hb); clear HB; have HB := n0_; clear n0_; (try clear hb); (try clear hb2); (try clear hk); (try clear hi)) | ((with_reducible refine gate_callee (f := 87) rfl ?_); refine goesL_ (some 25) rfl rfl Tryd.func87 (by kernel_rfl) rfl #[.string t64104] rfl (by (try simp only [List.map_toArray, List.map_cons, List.map_nil]); first | done | rfl | (simp only [List.length_drop, List.length_take]; rfl)) ?_; (with_reducible refine (names_ofBlock.calls k t64104 t64106 t64107 _ A4.out).mono ?_); rintro e w18 ⟨rfl, hb⟩; refine ⟨_, rfl, ?_⟩; have n0_ := Aside0.mk (below_step (by repeat (first | (with_reducible first | exact HB.out | apply below_alloc | apply pw_below_drewN | apply below_drew1) | exact HB.out)) hb); clear HB; have HB := n0_; clear n0_; (try clear hb); (try clear hb2); (try clear hk); (try clear hi)))
    go_ret3
    exact ⟨by first | rfl | (simp [errW_none, errW_some] <;> rfl) | (simp [*, errW_none, errW_some] <;> rfl), by repeat (first | (with_reducible first | exact HB.out | apply below_alloc | apply pw_below_drewN | apply below_drew1) | exact HB.out)⟩
end Go.Proofs.YtcdopgkkieenjaaDoor.V
end

-- VFVirgateref12First
section
-- PRINTED by print.py (a twelfth state) out of the translation. Not trusted: Lean checks it.
namespace Go.Proofs.YtcdopgkkieenjaaDoor.V
open Go.RowKit Go.Proofs.YtcdopgkkieenjaaDoorW.PrintWords Go.Proofs.YtcdopgkkieenjaaDoorW.PrintLast Go.Proofs.YtcdopgkkieenjaaDoorW.PrintMore
attribute [local go_sem] max2_int min2_int max_two min_two max_three min_three max_four min_four   -- for this text's walks alone
set_option linter.unusedVariables false
set_option linter.unusedSimpArgs false

/-! ### virgateref12_First: function 62 -/
def virgateref12_First.f (a0 : Int) : Option (Int) := some ((a0 - (Int.tmod a0 64)) % 4294967296)
set_option maxHeartbeats 8000000 in
set_option maxRecDepth 100000 in
theorem virgateref12_First.calls (a0 : Int) (r : Int) (w : World) (h : virgateref12_First.f a0 = some r) :
    Calls Tryd.prog 62 #[.int .u32 a0] w fun e w' => e = .returned (.int .u32 r) ∧ Drawn0 w w' := by
  have H : (some ((a0 - (Int.tmod a0 64)) % 4294967296)) = some r := h
  clear h
  obtain rfl := Option.some.inj H
  go_enter Tryd.func62, Tryd.ntmps62
  go_wp2
  go_ret
  exact ⟨by first | rfl | (simp; done) | (simp [*]; done), by repeat (first | exact Drawn0.refl _ | apply Drawn0.step)⟩
end Go.Proofs.YtcdopgkkieenjaaDoor.V
end

-- VFVirgateref12Net
section
-- PRINTED by print.py (a twelfth state) out of the translation. Not trusted: Lean checks it.
namespace Go.Proofs.YtcdopgkkieenjaaDoor.V
open Go.RowKit Go.Proofs.YtcdopgkkieenjaaDoorW.PrintWords Go.Proofs.YtcdopgkkieenjaaDoorW.PrintLast Go.Proofs.YtcdopgkkieenjaaDoorW.PrintMore
attribute [local go_sem] max2_int min2_int max_two min_two max_three min_three max_four min_four   -- for this text's walks alone
set_option linter.unusedVariables false
set_option linter.unusedSimpArgs false

/-! ### virgateref12_Net: function 84 -/
def virgateref12_Net.f (k : Nat) (a0_0 : Int) (a0_1 : Int) : Option (ByteArray) := (virgateref01_Print.f k a0_0).bind fun t84102 => (if t84102.size + 1 ≤ 9223372036854775807 then ((virgateref01_Num.f k a0_1).bind fun t84103 => (if (t84102 ++ (⟨#[45]⟩ : ByteArray)).size + t84103.size ≤ 9223372036854775807 then (some ((t84102 ++ (⟨#[45]⟩ : ByteArray)) ++ t84103)) else (none))) else (none))
theorem virgateref12_Net.mono : ∀ a0 a1 k, LeO (virgateref12_Net.f k a0 a1) (virgateref12_Net.f (k + 1) a0 a1) := by
  intro a0 a1 k
  unfold virgateref12_Net.f
  repeat' first
      | (with_reducible exact virgateref01_Num.mono _ _)
      | (with_reducible exact virgateref01_Print.mono _ _)
      | (with_reducible exact LeO.refl _)
      | (with_reducible exact LeO.none _)
      | (with_reducible refine LeO.ite ?_ ?_)
      | (with_reducible refine LeO.bind ?_ (fun _ => ?_))
      | exact virgateref01_Num.mono _ _
      | exact virgateref01_Print.mono _ _
      | exact LeO.none _
      | refine LeO.ite ?_ ?_
      | refine LeO.bind ?_ (fun _ => ?_)
def virgateref12_Net.T1 : Bool × List (List Nat × List Nat) := (true, [([], []), ([0], [0]), ([1], [1]), ([2], [2]), ([], []), ([4], [4]), ([5, 2], [5]), ([3, 6], [3, 6]), ([7, 6, 0, 1, 2, 3, 4, 5, 6, 7], [7])])
def virgateref12_Net.B1 : List Nat := [0, 1, 3, 7, 0, 16, 55, 127, 255]
theorem virgateref12_Net.tab1 : rtab .any (opsOf Tryd.f84 1) = virgateref12_Net.T1 := by kernel_rfl
theorem virgateref12_Net.bits1 : waitsOk virgateref12_Net.T1.2 virgateref12_Net.B1 = true := by kernel_rfl
set_option maxHeartbeats 8000000 in
set_option maxRecDepth 100000 in
theorem virgateref12_Net.calls (k : Nat) (a0_0 : Int) (a0_1 : Int) (r : ByteArray) (w : World) (h : virgateref12_Net.f k a0_0 a0_1 = some r) :
    Calls Tryd.prog 84 #[.agg #[.int .u32 a0_0, .int .i64 a0_1]] w fun e w' => e = .returned (.string r) ∧ Below w.heap.size w w' := by
  have hu44 := Tryd.underlying44
  have HB := Aside0.mk (Below.refl w.heap.size w)
  have H : ((virgateref01_Print.f k a0_0).bind fun t84102 => (if t84102.size + 1 ≤ 9223372036854775807 then ((virgateref01_Num.f k a0_1).bind fun t84103 => (if (t84102 ++ (⟨#[45]⟩ : ByteArray)).size + t84103.size ≤ 9223372036854775807 then (some ((t84102 ++ (⟨#[45]⟩ : ByteArray)) ++ t84103)) else (none))) else (none))) = some r := h
  clear h
  replace H := Option.bind_eq_some_iff.mp H
  obtain ⟨t84102, A20, H⟩ := H
  replace H : (if t84102.size + 1 ≤ 9223372036854775807 then ((virgateref01_Num.f k a0_1).bind fun t84103 => (if (t84102 ++ (⟨#[45]⟩ : ByteArray)).size + t84103.size ≤ 9223372036854775807 then (some ((t84102 ++ (⟨#[45]⟩ : ByteArray)) ++ t84103)) else (none))) else (none)) = some r := H
  have A2 := Aside0.mk A20
  clear A20
  by_cases c3 : t84102.size + 1 ≤ 9223372036854775807
  · rw [if_pos c3] at H
    have c3b0 := eq_true c3
    have c3b1 : decide (t84102.size + 1 ≤ 9223372036854775807) = true := decide_eq_true c3
    try have c3b2 : (9223372036854775807 < t84102.size + 1) = False := eq_false (Nat.not_lt.2 c3)
    replace H := Option.bind_eq_some_iff.mp H
    obtain ⟨t84103, A40, H⟩ := H
    replace H : (if (t84102 ++ (⟨#[45]⟩ : ByteArray)).size + t84103.size ≤ 9223372036854775807 then (some ((t84102 ++ (⟨#[45]⟩ : ByteArray)) ++ t84103)) else (none)) = some r := H
    have A4 := Aside0.mk A40
    clear A40
    by_cases c5 : (t84102 ++ (⟨#[45]⟩ : ByteArray)).size + t84103.size ≤ 9223372036854775807
    · rw [if_pos c5] at H
      have c5b0 := eq_true c5
      have c5b1 : decide ((t84102 ++ (⟨#[45]⟩ : ByteArray)).size + t84103.size ≤ 9223372036854775807) = true := decide_eq_true c5
      try have c5b2 : (9223372036854775807 < (t84102 ++ (⟨#[45]⟩ : ByteArray)).size + t84103.size) = False := eq_false (Nat.not_lt.2 c5)
      try have c5s1 : ¬ 9223372036854775807 < t84102.size + 1 + t84103.size := by have h_ := c5; simp only [ByteArray.size_append] at h_; exact Nat.not_lt.2 h_
      try have c5s2 := eq_false c5s1
      obtain rfl := Option.some.inj H
      go_enter Tryd.func84, Tryd.ntmps84
      try go_wp2_with (first | ((with_reducible refine gate_dst (N := 1) rfl ?_); refine box_event ?hg (N := 1) ?hd (cs := #[.int .u32 a0_0, .int .i64 a0_1]) (t := 44) ?hr ?_; (case hd => rfl); (case hg => rfl); (case hr => first | (go_simp; done) | (go_simp; rfl)); intro gb84101 hg w6 hbox hb; have n0_ := Aside0.mk (below_step (by repeat (first | (with_reducible first | exact HB.out | apply below_alloc | apply pw_below_drewN | apply below_drew1) | exact HB.out)) hb); have n1_ := Aside0.mk (hbox); have n2_ := Aside0.mk ((by rw [hg]; exact (below_size (by repeat (first | (with_reducible first | exact HB.out | apply below_alloc | apply pw_below_drewN | apply below_drew1) | exact HB.out))) : w.heap.size ≤ gb84101)); have n3_ := Aside0.mk ((by rw [hg]; exact (below_size (by repeat (first | (with_reducible first | exact HB.out | apply below_alloc | apply pw_below_drewN | apply below_drew1) | exact HB.out))) : w.heap.size ≤ gb84101)); clear HB; have HB := n0_; have BK84101 := n1_; have GW84101 := n2_; have GE84101 := n3_; clear n0_ n1_ n2_ n3_; clear hb hbox hg))
      have n0_ := Aside0.mk (blk_drew BK84101.out)
      have n1_ := Aside0.mk (below_drew1 HB.out)
      clear BK84101
      clear HB
      have BK84101 := n0_
      have HB := n1_
      clear n0_ n1_
      refine start_ (n := 9) (S := fun w' => w'.cell? ⟨gb84101, 0, none⟩ = some (.int .u32 a0_0) ∧ w'.cell? ⟨gb84101, 1, none⟩ = some (.int .i64 a0_1)) (ds := []) #[false, false, false, false, false, false, false, false, false] (by kernel_rfl) rfl rfl ⟨(blk_cell BK84101.out 0).trans rfl, (blk_cell BK84101.out 1).trans rfl⟩ (fun hHeld => ?_); refine with_tabW virgateref12_Net.tab1 virgateref12_Net.bits1 (fun HT_ HW_ => ?_)
      generalize w6.drew = w7 at BK84101 HB hHeld ⊢
      refine pure_ (i := 0) (N := some 3) (v := ?_) (a' := ?_) #[true, false, false, false, false, false, false, false, false] rfl rfl (any_of HT_.out (by kernel_rfl)) (fun _ _ _ h => h) (Or.inl ⟨by rfl, ?_⟩) ?_ ?_
      rotate_left
      · intro w'
        go_simp
        with_reducible rfl
      rotate_left
      · simp only [Act.put, List.setIfInBounds_toArray, List.set_cons_zero, List.set_cons_succ, i64_w, i32_w]
        rfl
      refine pure_ (i := 4) (N := some 7) (v := ?_) (a' := ?_) #[true, false, false, false, true, false, false, false, false] rfl rfl (any_of HT_.out (by kernel_rfl)) (fun _ _ _ h => h) (Or.inl ⟨by rfl, ?_⟩) ?_ ?_
      rotate_left
      · intro w'
        go_simp
        with_reducible rfl
      rotate_left
      · simp only [Act.put, List.setIfInBounds_toArray, List.set_cons_zero, List.set_cons_succ, i64_w, i32_w]
        rfl
      refine take_ (i := 1) (N := some 4) (v := ?_) (a' := ?_) #[true, true, false, false, true, false, false, false, false] rfl rfl (take_ofW HT_.out HW_.out (by kernel_rfl)) (fun _ _ _ h => h) (Or.inl ⟨by rfl, ?_⟩) hHeld ?_ ?_
      rotate_left
      · rintro w' ⟨s0, s1⟩
        go_simp
        with_reducible rfl
      rotate_left
      · simp only [Act.put, List.setIfInBounds_toArray, List.set_cons_zero, List.set_cons_succ, i64_w, i32_w]
        rfl
      refine take_ (i := 5) (N := some 8) (v := ?_) (a' := ?_) #[true, true, false, false, true, true, false, false, false] rfl rfl (take_ofW HT_.out HW_.out (by kernel_rfl)) (fun _ _ _ h => h) (Or.inl ⟨by rfl, ?_⟩) hHeld ?_ ?_
      rotate_left
      · rintro w' ⟨s0, s1⟩
        go_simp
        with_reducible rfl
      rotate_left
      · simp only [Act.put, List.setIfInBounds_toArray, List.set_cons_zero, List.set_cons_succ, i64_w, i32_w]
        rfl
      refine one_ (i := 2) (N := some 5) #[true, true, true, false, true, true, false, false, false] rfl rfl (one_of HT_.out (by kernel_rfl)) (by decide) (fun K hK => ?_)
      refine goes_ Tryd.func20 (by kernel_rfl) rfl #[.int .u32 a0_0] (by rfl) rfl rfl (by (try simp only [List.map_toArray, List.map_cons, List.map_nil]); first | done | rfl | (simp only [List.length_drop, List.length_take]; rfl)) ?_
      with_reducible refine (virgateref01_Print.calls k a0_0 t84102 _ A2.out).mono ?_
      rintro e w8 ⟨rfl, hb⟩
      refine ⟨_, rfl, ?_⟩
      have n0_ := Aside0.mk (blk_below (g := gb84101) (o := .cells #[.int .u32 a0_0, .int .i64 a0_1] 44 (0, 0)) (by (with_reducible repeat (first | refine blk_drewN ?_ _ | refine blk_drew ?_ | refine blk_alloc ?_ _)); exact BK84101.out) hb)
      have n1_ := Aside0.mk (below_step (by repeat (first | (with_reducible first | exact HB.out | apply below_alloc | apply pw_below_drewN | apply below_drew1 | refine below_set ?_ GE84101.out) | exact HB.out)) hb)
      clear BK84101
      clear HB
      have BK84101 := n0_
      have HB := n1_
      clear n0_ n1_
      (try clear hb)
      (try clear hb2)
      (try clear hk)
      (try clear hi)
      refine hK.out _ _ ⟨(blk_cell BK84101.out 0).trans rfl, (blk_cell BK84101.out 1).trans rfl⟩ (fun hHeld => ?_)
      clear hK K
      refine norm_ (a' := ?_) ?_ ?_
      rotate_left
      · show Act.put _ (some 5) _ = _
        simp only [Act.put, List.setIfInBounds_toArray, List.set_cons_zero, List.set_cons_succ, i64_w, i32_w]
        rfl
      refine pure_ (i := 3) (N := some 6) (v := ?_) (a' := ?_) #[true, true, true, true, true, true, false, false, false] rfl rfl (any_of HT_.out (by kernel_rfl)) (fun _ _ _ h => h) (Or.inl ⟨by rfl, ?_⟩) ?_ ?_
      rotate_left
      · intro w'
        go_simp
        with_reducible rfl
      rotate_left
      · simp only [Act.put, List.setIfInBounds_toArray, List.set_cons_zero, List.set_cons_succ, i64_w, i32_w]
        rfl
      refine one_ (i := 6) (N := some 9) #[true, true, true, true, true, true, true, false, false] rfl rfl (one_of HT_.out (by kernel_rfl)) (by decide) (fun K hK => ?_)
      refine goes_ Tryd.func81 (by kernel_rfl) rfl #[.int .i64 a0_1] (by rfl) rfl rfl (by (try simp only [List.map_toArray, List.map_cons, List.map_nil]); first | done | rfl | (simp only [List.length_drop, List.length_take]; rfl)) ?_
      with_reducible refine (virgateref01_Num.calls k a0_1 t84103 _ A4.out).mono ?_
      rintro e w9 ⟨rfl, hb⟩
      refine ⟨_, rfl, ?_⟩
      have n0_ := Aside0.mk (blk_below (g := gb84101) (o := .cells #[.int .u32 a0_0, .int .i64 a0_1] 44 (0, 0)) (by (with_reducible repeat (first | refine blk_drewN ?_ _ | refine blk_drew ?_ | refine blk_alloc ?_ _)); exact BK84101.out) hb)
      have n1_ := Aside0.mk (below_step (by repeat (first | (with_reducible first | exact HB.out | apply below_alloc | apply pw_below_drewN | apply below_drew1 | refine below_set ?_ GE84101.out) | exact HB.out)) hb)
      clear BK84101
      clear HB
      have BK84101 := n0_
      have HB := n1_
      clear n0_ n1_
      (try clear hb)
      (try clear hb2)
      (try clear hk)
      (try clear hi)
      refine hK.out _ _ ⟨(blk_cell BK84101.out 0).trans rfl, (blk_cell BK84101.out 1).trans rfl⟩ (fun hHeld => ?_)
      clear hK K
      refine norm_ (a' := ?_) ?_ ?_
      rotate_left
      · show Act.put _ (some 9) _ = _
        simp only [Act.put, List.setIfInBounds_toArray, List.set_cons_zero, List.set_cons_succ, i64_w, i32_w]
        rfl
      refine pure_ (i := 7) (N := some 10) (v := ?_) (a' := ?_) #[true, true, true, true, true, true, true, true, false] rfl rfl (any_of HT_.out (by kernel_rfl)) (fun _ _ _ h => h) (Or.inl ⟨by rfl, ?_⟩) ?_ ?_
      rotate_left
      · intro w'
        go_simp
        with_reducible rfl
      rotate_left
      · simp only [Act.put, List.setIfInBounds_toArray, List.set_cons_zero, List.set_cons_succ, i64_w, i32_w]
        rfl
      refine pure_ (i := 8) (N := some 2) (v := ?_) (a' := ?_) #[true, true, true, true, true, true, true, true, true] rfl rfl (any_of HT_.out (by kernel_rfl)) (fun _ _ _ h => h) (Or.inl ⟨by rfl, ?_⟩) ?_ ?_
      rotate_left
      · intro w'
        go_simp
        with_reducible rfl
      rotate_left
      · simp only [Act.put, List.setIfInBounds_toArray, List.set_cons_zero, List.set_cons_succ, i64_w, i32_w]
        rfl
      refine done_ (done_of HT_.out (by kernel_rfl)) ?_
      try go_wp2
      go_ret
      exact ⟨by first | rfl | (simp [errW_none, errW_some] <;> rfl) | (simp [*, errW_none, errW_some] <;> rfl), by repeat (first | (with_reducible first | exact HB.out | apply below_alloc | apply pw_below_drewN | apply below_drew1 | refine below_set ?_ GE84101.out) | exact HB.out)⟩
    · rw [if_neg c5] at H
      exact absurd H (by simp)
  · rw [if_neg c3] at H
    exact absurd H (by simp)
end Go.Proofs.YtcdopgkkieenjaaDoor.V
end

-- VFVirgateref12Block
section
-- PRINTED by print.py (a twelfth state) out of the translation. Not trusted: Lean checks it.
namespace Go.Proofs.YtcdopgkkieenjaaDoor.V
open Go.RowKit Go.Proofs.YtcdopgkkieenjaaDoorW.PrintWords Go.Proofs.YtcdopgkkieenjaaDoorW.PrintLast Go.Proofs.YtcdopgkkieenjaaDoorW.PrintMore
attribute [local go_sem] max2_int min2_int max_two min_two max_three min_three max_four min_four   -- for this text's walks alone
set_option linter.unusedVariables false
set_option linter.unusedSimpArgs false

/-! ### virgateref12_Block: function 61 -/
def virgateref12_Block.f (k : Nat) (a0 : Int) : Option (ByteArray) := (virgateref12_First.f a0).bind fun t61101 => ((virgateref12_Net.f k t61101 26).bind fun t61102 => (if 6 + t61102.size ≤ 9223372036854775807 then (some ((⟨#[98, 108, 111, 99, 107, 47]⟩ : ByteArray) ++ t61102)) else (none)))
theorem virgateref12_Block.mono : ∀ a0 k, LeO (virgateref12_Block.f k a0) (virgateref12_Block.f (k + 1) a0) := by
  intro a0 k
  unfold virgateref12_Block.f
  repeat' first
      | (with_reducible exact virgateref12_Net.mono _ _ _)
      | (with_reducible exact LeO.refl _)
      | (with_reducible exact LeO.none _)
      | (with_reducible refine LeO.ite ?_ ?_)
      | (with_reducible refine LeO.bind ?_ (fun _ => ?_))
      | exact virgateref12_Net.mono _ _ _
      | exact LeO.none _
      | refine LeO.ite ?_ ?_
      | refine LeO.bind ?_ (fun _ => ?_)
set_option maxHeartbeats 8000000 in
set_option maxRecDepth 100000 in
theorem virgateref12_Block.calls (k : Nat) (a0 : Int) (r : ByteArray) (w : World) (h : virgateref12_Block.f k a0 = some r) :
    Calls Tryd.prog 61 #[.int .u32 a0] w fun e w' => e = .returned (.string r) ∧ Below w.heap.size w w' := by
  have hu44 := Tryd.underlying44
  have HB := Aside0.mk (Below.refl w.heap.size w)
  have H : ((virgateref12_First.f a0).bind fun t61101 => ((virgateref12_Net.f k t61101 26).bind fun t61102 => (if 6 + t61102.size ≤ 9223372036854775807 then (some ((⟨#[98, 108, 111, 99, 107, 47]⟩ : ByteArray) ++ t61102)) else (none)))) = some r := h
  clear h
  replace H := Option.bind_eq_some_iff.mp H
  obtain ⟨t61101, A20, H⟩ := H
  replace H : ((virgateref12_Net.f k t61101 26).bind fun t61102 => (if 6 + t61102.size ≤ 9223372036854775807 then (some ((⟨#[98, 108, 111, 99, 107, 47]⟩ : ByteArray) ++ t61102)) else (none))) = some r := H
  have A2 := Aside0.mk A20
  clear A20
  replace H := Option.bind_eq_some_iff.mp H
  obtain ⟨t61102, A30, H⟩ := H
  replace H : (if 6 + t61102.size ≤ 9223372036854775807 then (some ((⟨#[98, 108, 111, 99, 107, 47]⟩ : ByteArray) ++ t61102)) else (none)) = some r := H
  have A3 := Aside0.mk A30
  clear A30
  by_cases c4 : 6 + t61102.size ≤ 9223372036854775807
  · rw [if_pos c4] at H
    have c4b0 := eq_true c4
    have c4b1 : decide (6 + t61102.size ≤ 9223372036854775807) = true := decide_eq_true c4
    try have c4b2 : (9223372036854775807 < 6 + t61102.size) = False := eq_false (Nat.not_lt.2 c4)
    obtain rfl := Option.some.inj H
    go_enter Tryd.func61, Tryd.ntmps61
    go_wp2_with (first | ((with_reducible refine gate_callee (f := 62) rfl ?_); refine goesL_ (some 4) rfl rfl Tryd.func62 (by kernel_rfl) rfl #[.int .u32 a0] rfl (by (try simp only [List.map_toArray, List.map_cons, List.map_nil]); first | done | rfl | (simp only [List.length_drop, List.length_take]; rfl)) ?_; (with_reducible refine (virgateref12_First.calls a0 t61101 _ A2.out).mono ?_); rintro e w' ⟨rfl, ⟨nd, rfl⟩⟩; refine ⟨_, rfl, ?_⟩) | ((with_reducible refine gate_callee (f := 84) rfl ?_); refine goesL_ (some 6) rfl rfl Tryd.func84 (by kernel_rfl) rfl #[.agg #[.int .u32 t61101, .int .i64 26]] rfl (by (try simp only [List.map_toArray, List.map_cons, List.map_nil]); first | done | rfl | (simp only [List.length_drop, List.length_take]; rfl)) ?_; (with_reducible refine (virgateref12_Net.calls k t61101 26 t61102 _ A3.out).mono ?_); rintro e w5 ⟨rfl, hb⟩; refine ⟨_, rfl, ?_⟩; have n0_ := Aside0.mk (below_step (by repeat (first | (with_reducible first | exact HB.out | apply below_alloc | apply pw_below_drewN | apply below_drew1) | exact HB.out)) hb); clear HB; have HB := n0_; clear n0_; (try clear hb); (try clear hb2); (try clear hk); (try clear hi)))
    go_ret
    exact ⟨by first | rfl | (simp [errW_none, errW_some] <;> rfl) | (simp [*, errW_none, errW_some] <;> rfl), by repeat (first | (with_reducible first | exact HB.out | apply below_alloc | apply pw_below_drewN | apply below_drew1) | exact HB.out)⟩
  · rw [if_neg c4] at H
    exact absurd H (by simp)
end Go.Proofs.YtcdopgkkieenjaaDoor.V
end

-- VFVirgateref12Aff
section
-- PRINTED by print.py (a twelfth state) out of the translation. Not trusted: Lean checks it.
namespace Go.Proofs.YtcdopgkkieenjaaDoor.V
open Go.RowKit Go.Proofs.YtcdopgkkieenjaaDoorW.PrintWords Go.Proofs.YtcdopgkkieenjaaDoorW.PrintLast Go.Proofs.YtcdopgkkieenjaaDoorW.PrintMore
attribute [local go_sem] max2_int min2_int max_two min_two max_three min_three max_four min_four   -- for this text's walks alone
set_option linter.unusedVariables false
set_option linter.unusedSimpArgs false

/-! ### virgateref12_Aff: function 65 -/
def virgateref12_Aff.f (k : Nat) (a0 : ByteArray) (a1 : Int) : Option (ByteArray) := if 4 + a0.size ≤ 9223372036854775807 then (if ((⟨#[97, 102, 102, 47]⟩ : ByteArray) ++ a0).size + 1 ≤ 9223372036854775807 then ((virgateref12_First.f a1).bind fun t65101 => ((virgateref12_Net.f k t65101 26).bind fun t65102 => (if (((⟨#[97, 102, 102, 47]⟩ : ByteArray) ++ a0) ++ (⟨#[47]⟩ : ByteArray)).size + t65102.size ≤ 9223372036854775807 then (some ((((⟨#[97, 102, 102, 47]⟩ : ByteArray) ++ a0) ++ (⟨#[47]⟩ : ByteArray)) ++ t65102)) else (none)))) else (none)) else (none)
theorem virgateref12_Aff.mono : ∀ a0 a1 k, LeO (virgateref12_Aff.f k a0 a1) (virgateref12_Aff.f (k + 1) a0 a1) := by
  intro a0 a1 k
  unfold virgateref12_Aff.f
  repeat' first
      | (with_reducible exact virgateref12_Net.mono _ _ _)
      | (with_reducible exact LeO.refl _)
      | (with_reducible exact LeO.none _)
      | (with_reducible refine LeO.ite ?_ ?_)
      | (with_reducible refine LeO.bind ?_ (fun _ => ?_))
      | exact virgateref12_Net.mono _ _ _
      | exact LeO.none _
      | refine LeO.ite ?_ ?_
      | refine LeO.bind ?_ (fun _ => ?_)
set_option maxHeartbeats 8000000 in
set_option maxRecDepth 100000 in
theorem virgateref12_Aff.calls (k : Nat) (a0 : ByteArray) (a1 : Int) (r : ByteArray) (w : World) (h : virgateref12_Aff.f k a0 a1 = some r) :
    Calls Tryd.prog 65 #[.string a0, .int .u32 a1] w fun e w' => e = .returned (.string r) ∧ Below w.heap.size w w' := by
  have hu44 := Tryd.underlying44
  have HB := Aside0.mk (Below.refl w.heap.size w)
  have H : (if 4 + a0.size ≤ 9223372036854775807 then (if ((⟨#[97, 102, 102, 47]⟩ : ByteArray) ++ a0).size + 1 ≤ 9223372036854775807 then ((virgateref12_First.f a1).bind fun t65101 => ((virgateref12_Net.f k t65101 26).bind fun t65102 => (if (((⟨#[97, 102, 102, 47]⟩ : ByteArray) ++ a0) ++ (⟨#[47]⟩ : ByteArray)).size + t65102.size ≤ 9223372036854775807 then (some ((((⟨#[97, 102, 102, 47]⟩ : ByteArray) ++ a0) ++ (⟨#[47]⟩ : ByteArray)) ++ t65102)) else (none)))) else (none)) else (none)) = some r := h
  clear h
  by_cases c3 : 4 + a0.size ≤ 9223372036854775807
  · rw [if_pos c3] at H
    have c3b0 := eq_true c3
    have c3b1 : decide (4 + a0.size ≤ 9223372036854775807) = true := decide_eq_true c3
    try have c3b2 : (9223372036854775807 < 4 + a0.size) = False := eq_false (Nat.not_lt.2 c3)
    by_cases c4 : ((⟨#[97, 102, 102, 47]⟩ : ByteArray) ++ a0).size + 1 ≤ 9223372036854775807
    · rw [if_pos c4] at H
      have c4b0 := eq_true c4
      have c4b1 : decide (((⟨#[97, 102, 102, 47]⟩ : ByteArray) ++ a0).size + 1 ≤ 9223372036854775807) = true := decide_eq_true c4
      try have c4b2 : (9223372036854775807 < ((⟨#[97, 102, 102, 47]⟩ : ByteArray) ++ a0).size + 1) = False := eq_false (Nat.not_lt.2 c4)
      try have c4s1 : ¬ 9223372036854775807 < 4 + a0.size + 1 := by have h_ := c4; simp only [ByteArray.size_append] at h_; exact Nat.not_lt.2 h_
      try have c4s2 := eq_false c4s1
      replace H := Option.bind_eq_some_iff.mp H
      obtain ⟨t65101, A50, H⟩ := H
      replace H : ((virgateref12_Net.f k t65101 26).bind fun t65102 => (if (((⟨#[97, 102, 102, 47]⟩ : ByteArray) ++ a0) ++ (⟨#[47]⟩ : ByteArray)).size + t65102.size ≤ 9223372036854775807 then (some ((((⟨#[97, 102, 102, 47]⟩ : ByteArray) ++ a0) ++ (⟨#[47]⟩ : ByteArray)) ++ t65102)) else (none))) = some r := H
      have A5 := Aside0.mk A50
      clear A50
      replace H := Option.bind_eq_some_iff.mp H
      obtain ⟨t65102, A60, H⟩ := H
      replace H : (if (((⟨#[97, 102, 102, 47]⟩ : ByteArray) ++ a0) ++ (⟨#[47]⟩ : ByteArray)).size + t65102.size ≤ 9223372036854775807 then (some ((((⟨#[97, 102, 102, 47]⟩ : ByteArray) ++ a0) ++ (⟨#[47]⟩ : ByteArray)) ++ t65102)) else (none)) = some r := H
      have A6 := Aside0.mk A60
      clear A60
      by_cases c7 : (((⟨#[97, 102, 102, 47]⟩ : ByteArray) ++ a0) ++ (⟨#[47]⟩ : ByteArray)).size + t65102.size ≤ 9223372036854775807
      · rw [if_pos c7] at H
        have c7b0 := eq_true c7
        have c7b1 : decide ((((⟨#[97, 102, 102, 47]⟩ : ByteArray) ++ a0) ++ (⟨#[47]⟩ : ByteArray)).size + t65102.size ≤ 9223372036854775807) = true := decide_eq_true c7
        try have c7b2 : (9223372036854775807 < (((⟨#[97, 102, 102, 47]⟩ : ByteArray) ++ a0) ++ (⟨#[47]⟩ : ByteArray)).size + t65102.size) = False := eq_false (Nat.not_lt.2 c7)
        try have c7s1 : ¬ 9223372036854775807 < 4 + a0.size + 1 + t65102.size := by have h_ := c7; simp only [ByteArray.size_append] at h_; exact Nat.not_lt.2 h_
        try have c7s2 := eq_false c7s1
        obtain rfl := Option.some.inj H
        go_enter Tryd.func65, Tryd.ntmps65
        go_wp2_with (first | ((with_reducible refine gate_callee (f := 62) rfl ?_); refine goesL_ (some 9) rfl rfl Tryd.func62 (by kernel_rfl) rfl #[.int .u32 a1] rfl (by (try simp only [List.map_toArray, List.map_cons, List.map_nil]); first | done | rfl | (simp only [List.length_drop, List.length_take]; rfl)) ?_; (with_reducible refine (virgateref12_First.calls a1 t65101 _ A5.out).mono ?_); rintro e w' ⟨rfl, ⟨nd, rfl⟩⟩; refine ⟨_, rfl, ?_⟩) | ((with_reducible refine gate_callee (f := 84) rfl ?_); refine goesL_ (some 11) rfl rfl Tryd.func84 (by kernel_rfl) rfl #[.agg #[.int .u32 t65101, .int .i64 26]] rfl (by (try simp only [List.map_toArray, List.map_cons, List.map_nil]); first | done | rfl | (simp only [List.length_drop, List.length_take]; rfl)) ?_; (with_reducible refine (virgateref12_Net.calls k t65101 26 t65102 _ A6.out).mono ?_); rintro e w8 ⟨rfl, hb⟩; refine ⟨_, rfl, ?_⟩; have n0_ := Aside0.mk (below_step (by repeat (first | (with_reducible first | exact HB.out | apply below_alloc | apply pw_below_drewN | apply below_drew1) | exact HB.out)) hb); clear HB; have HB := n0_; clear n0_; (try clear hb); (try clear hb2); (try clear hk); (try clear hi)))
        go_ret
        exact ⟨by first | rfl | (simp [errW_none, errW_some] <;> rfl) | (simp [*, errW_none, errW_some] <;> rfl), by repeat (first | (with_reducible first | exact HB.out | apply below_alloc | apply pw_below_drewN | apply below_drew1) | exact HB.out)⟩
      · rw [if_neg c7] at H
        exact absurd H (by simp)
    · rw [if_neg c4] at H
      exact absurd H (by simp)
  · rw [if_neg c3] at H
    exact absurd H (by simp)
end Go.Proofs.YtcdopgkkieenjaaDoor.V
end

-- VFVirgateref12Pool
section
-- PRINTED by print.py (a twelfth state) out of the translation. Not trusted: Lean checks it.
namespace Go.Proofs.YtcdopgkkieenjaaDoor.V
open Go.RowKit Go.Proofs.YtcdopgkkieenjaaDoorW.PrintWords Go.Proofs.YtcdopgkkieenjaaDoorW.PrintLast Go.Proofs.YtcdopgkkieenjaaDoorW.PrintMore
attribute [local go_sem] max2_int min2_int max_two min_two max_three min_three max_four min_four   -- for this text's walks alone
set_option linter.unusedVariables false
set_option linter.unusedSimpArgs false

/-! ### virgateref12_Pool: function 57 -/
def virgateref12_Pool.f (k : Nat) (a0_0 : Int) (a0_1 : Int) : Option (ByteArray × Bool) := (virgateref02_May.f k a0_0 a0_1).bind fun t57102 => (if t57102 = true then (if a0_1 > 26 then (some ((⟨#[]⟩ : ByteArray), false)) else ((virgateref12_Net.f k a0_0 a0_1).bind fun t57103 => (if 5 + t57103.size ≤ 9223372036854775807 then (some ((⟨#[112, 111, 111, 108, 47]⟩ : ByteArray) ++ t57103, true)) else (none)))) else (some ((⟨#[]⟩ : ByteArray), false)))
theorem virgateref12_Pool.mono : ∀ a0 a1 k, LeO (virgateref12_Pool.f k a0 a1) (virgateref12_Pool.f (k + 1) a0 a1) := by
  intro a0 a1 k
  unfold virgateref12_Pool.f
  repeat' first
      | (with_reducible exact virgateref02_May.mono _ _ _)
      | (with_reducible exact virgateref12_Net.mono _ _ _)
      | (with_reducible exact LeO.refl _)
      | (with_reducible exact LeO.none _)
      | (with_reducible refine LeO.ite ?_ ?_)
      | (with_reducible refine LeO.bind ?_ (fun _ => ?_))
      | exact virgateref02_May.mono _ _ _
      | exact virgateref12_Net.mono _ _ _
      | exact LeO.none _
      | refine LeO.ite ?_ ?_
      | refine LeO.bind ?_ (fun _ => ?_)
set_option maxHeartbeats 8000000 in
set_option maxRecDepth 100000 in
theorem virgateref12_Pool.calls (k : Nat) (a0_0 : Int) (a0_1 : Int) (r1 : ByteArray) (r2 : Bool) (w : World) (h : virgateref12_Pool.f k a0_0 a0_1 = some (r1, r2)) :
    Calls Tryd.prog 57 #[.agg #[.int .u32 a0_0, .int .i64 a0_1]] w fun e w' => e = .returned (.tuple #[.string r1, .bool r2]) ∧ Below w.heap.size w w' := by
  have hu44 := Tryd.underlying44
  have HB := Aside0.mk (Below.refl w.heap.size w)
  have H : ((virgateref02_May.f k a0_0 a0_1).bind fun t57102 => (if t57102 = true then (if a0_1 > 26 then (some ((⟨#[]⟩ : ByteArray), false)) else ((virgateref12_Net.f k a0_0 a0_1).bind fun t57103 => (if 5 + t57103.size ≤ 9223372036854775807 then (some ((⟨#[112, 111, 111, 108, 47]⟩ : ByteArray) ++ t57103, true)) else (none)))) else (some ((⟨#[]⟩ : ByteArray), false)))) = some (r1, r2) := h
  clear h
  replace H := Option.bind_eq_some_iff.mp H
  obtain ⟨t57102, A20, H⟩ := H
  replace H : (if t57102 = true then (if a0_1 > 26 then (some ((⟨#[]⟩ : ByteArray), false)) else ((virgateref12_Net.f k a0_0 a0_1).bind fun t57103 => (if 5 + t57103.size ≤ 9223372036854775807 then (some ((⟨#[112, 111, 111, 108, 47]⟩ : ByteArray) ++ t57103, true)) else (none)))) else (some ((⟨#[]⟩ : ByteArray), false))) = some (r1, r2) := H
  have A2 := Aside0.mk A20
  clear A20
  by_cases c3 : t57102 = true
  · subst c3
    have H1 : (if a0_1 > 26 then (some ((⟨#[]⟩ : ByteArray), false)) else ((virgateref12_Net.f k a0_0 a0_1).bind fun t57103 => (if 5 + t57103.size ≤ 9223372036854775807 then (some ((⟨#[112, 111, 111, 108, 47]⟩ : ByteArray) ++ t57103, true)) else (none)))) = some (r1, r2) := by rw [if_pos rfl] at H; exact H
    clear H
    have H := H1
    clear H1
    by_cases c4 : a0_1 > 26
    · rw [if_pos c4] at H
      have c4b0 : decide (26 < a0_1) = true := decide_eq_true c4
      clear c4
      simp only [Option.some.injEq, Prod.mk.injEq] at H
      obtain ⟨rfl, rfl⟩ := H
      go_enter Tryd.func57, Tryd.ntmps57
      go_wp2_with (first | ((with_reducible refine gate_dst (N := 1) rfl ?_); refine box_event ?hg (N := 1) ?hd (cs := #[.int .u32 a0_0, .int .i64 a0_1]) (t := 44) ?hr ?_; (case hd => rfl); (case hg => rfl); (case hr => first | (go_simp; done) | (go_simp; rfl)); intro gb57101 hg w5 hbox hb; have n0_ := Aside0.mk (below_step (by repeat (first | (with_reducible first | exact HB.out | apply below_alloc | apply pw_below_drewN | apply below_drew1) | exact HB.out)) hb); have n1_ := Aside0.mk (hbox); have n2_ := Aside0.mk ((by rw [hg]; exact (below_size (by repeat (first | (with_reducible first | exact HB.out | apply below_alloc | apply pw_below_drewN | apply below_drew1) | exact HB.out))) : w.heap.size ≤ gb57101)); have n3_ := Aside0.mk ((by rw [hg]; exact (below_size (by repeat (first | (with_reducible first | exact HB.out | apply below_alloc | apply pw_below_drewN | apply below_drew1) | exact HB.out))) : w.heap.size ≤ gb57101)); clear HB; have HB := n0_; have BK57101 := n1_; have GW57101 := n2_; have GE57101 := n3_; clear n0_ n1_ n2_ n3_; clear hb hbox hg; have hcz6_0 : w5.cell? ⟨gb57101, 0, none⟩ = some (.int .u32 a0_0) := (blk_cell BK57101.out 0).trans rfl; have hcz6_1 : w5.cell? ⟨gb57101, 1, none⟩ = some (.int .i64 a0_1) := (blk_cell BK57101.out 1).trans rfl; have hfz6_0 := blk_frozen BK57101.out 0; have hfz6_1 := blk_frozen BK57101.out 1) | ((with_reducible refine gate_callee (f := 35) rfl ?_); refine goesL_ (some 5) rfl rfl Tryd.func35 (by kernel_rfl) rfl #[.agg #[.int .u32 a0_0, .int .i64 a0_1]] rfl (by (try simp only [List.map_toArray, List.map_cons, List.map_nil]); first | done | rfl | (simp only [List.length_drop, List.length_take]; rfl)) ?_; (with_reducible refine (virgateref02_May.calls k a0_0 a0_1 true _ A2.out).mono ?_); rintro e w7 ⟨rfl, hb⟩; refine ⟨_, rfl, ?_⟩; have n0_ := Aside0.mk (blk_below (g := gb57101) (o := .cells #[.int .u32 a0_0, .int .i64 a0_1] 44 (0, 0)) (by (with_reducible repeat (first | refine blk_drewN ?_ _ | refine blk_drew ?_ | refine blk_alloc ?_ _)); exact BK57101.out) hb); have n1_ := Aside0.mk (below_step (by repeat (first | (with_reducible first | exact HB.out | apply below_alloc | apply pw_below_drewN | apply below_drew1 | refine below_set ?_ GE57101.out) | exact HB.out)) hb); clear BK57101; clear HB; have BK57101 := n0_; have HB := n1_; clear n0_ n1_; (try clear hb); (try clear hb2); (try clear hk); (try clear hi); have hcz8_0 : w7.cell? ⟨gb57101, 0, none⟩ = some (.int .u32 a0_0) := (blk_cell BK57101.out 0).trans rfl; have hcz8_1 : w7.cell? ⟨gb57101, 1, none⟩ = some (.int .i64 a0_1) := (blk_cell BK57101.out 1).trans rfl; have hfz8_0 := blk_frozen BK57101.out 0; have hfz8_1 := blk_frozen BK57101.out 1))
      go_ret2
      exact ⟨by first | rfl | (simp [errW_none, errW_some] <;> rfl) | (simp [*, errW_none, errW_some] <;> rfl), by repeat (first | (with_reducible first | exact HB.out | apply below_alloc | apply pw_below_drewN | apply below_drew1 | refine below_set ?_ GE57101.out) | exact HB.out)⟩
    · rw [if_neg c4] at H
      have c4b0 : decide (26 < a0_1) = false := decide_eq_false c4
      clear c4
      replace H := Option.bind_eq_some_iff.mp H
      obtain ⟨t57103, A90, H⟩ := H
      replace H : (if 5 + t57103.size ≤ 9223372036854775807 then (some ((⟨#[112, 111, 111, 108, 47]⟩ : ByteArray) ++ t57103, true)) else (none)) = some (r1, r2) := H
      have A9 := Aside0.mk A90
      clear A90
      by_cases c10 : 5 + t57103.size ≤ 9223372036854775807
      · rw [if_pos c10] at H
        have c10b0 := eq_true c10
        have c10b1 : decide (5 + t57103.size ≤ 9223372036854775807) = true := decide_eq_true c10
        try have c10b2 : (9223372036854775807 < 5 + t57103.size) = False := eq_false (Nat.not_lt.2 c10)
        simp only [Option.some.injEq, Prod.mk.injEq] at H
        obtain ⟨rfl, rfl⟩ := H
        go_enter Tryd.func57, Tryd.ntmps57
        go_wp2_with (first | ((with_reducible refine gate_dst (N := 1) rfl ?_); refine box_event ?hg (N := 1) ?hd (cs := #[.int .u32 a0_0, .int .i64 a0_1]) (t := 44) ?hr ?_; (case hd => rfl); (case hg => rfl); (case hr => first | (go_simp; done) | (go_simp; rfl)); intro gb57101 hg w11 hbox hb; have n0_ := Aside0.mk (below_step (by repeat (first | (with_reducible first | exact HB.out | apply below_alloc | apply pw_below_drewN | apply below_drew1) | exact HB.out)) hb); have n1_ := Aside0.mk (hbox); have n2_ := Aside0.mk ((by rw [hg]; exact (below_size (by repeat (first | (with_reducible first | exact HB.out | apply below_alloc | apply pw_below_drewN | apply below_drew1) | exact HB.out))) : w.heap.size ≤ gb57101)); have n3_ := Aside0.mk ((by rw [hg]; exact (below_size (by repeat (first | (with_reducible first | exact HB.out | apply below_alloc | apply pw_below_drewN | apply below_drew1) | exact HB.out))) : w.heap.size ≤ gb57101)); clear HB; have HB := n0_; have BK57101 := n1_; have GW57101 := n2_; have GE57101 := n3_; clear n0_ n1_ n2_ n3_; clear hb hbox hg; have hcz12_0 : w11.cell? ⟨gb57101, 0, none⟩ = some (.int .u32 a0_0) := (blk_cell BK57101.out 0).trans rfl; have hcz12_1 : w11.cell? ⟨gb57101, 1, none⟩ = some (.int .i64 a0_1) := (blk_cell BK57101.out 1).trans rfl; have hfz12_0 := blk_frozen BK57101.out 0; have hfz12_1 := blk_frozen BK57101.out 1) | ((with_reducible refine gate_callee (f := 35) rfl ?_); refine goesL_ (some 5) rfl rfl Tryd.func35 (by kernel_rfl) rfl #[.agg #[.int .u32 a0_0, .int .i64 a0_1]] rfl (by (try simp only [List.map_toArray, List.map_cons, List.map_nil]); first | done | rfl | (simp only [List.length_drop, List.length_take]; rfl)) ?_; (with_reducible refine (virgateref02_May.calls k a0_0 a0_1 true _ A2.out).mono ?_); rintro e w13 ⟨rfl, hb⟩; refine ⟨_, rfl, ?_⟩; have n0_ := Aside0.mk (blk_below (g := gb57101) (o := .cells #[.int .u32 a0_0, .int .i64 a0_1] 44 (0, 0)) (by (with_reducible repeat (first | refine blk_drewN ?_ _ | refine blk_drew ?_ | refine blk_alloc ?_ _)); exact BK57101.out) hb); have n1_ := Aside0.mk (below_step (by repeat (first | (with_reducible first | exact HB.out | apply below_alloc | apply pw_below_drewN | apply below_drew1 | refine below_set ?_ GE57101.out) | exact HB.out)) hb); clear BK57101; clear HB; have BK57101 := n0_; have HB := n1_; clear n0_ n1_; (try clear hb); (try clear hb2); (try clear hk); (try clear hi); have hcz14_0 : w13.cell? ⟨gb57101, 0, none⟩ = some (.int .u32 a0_0) := (blk_cell BK57101.out 0).trans rfl; have hcz14_1 : w13.cell? ⟨gb57101, 1, none⟩ = some (.int .i64 a0_1) := (blk_cell BK57101.out 1).trans rfl; have hfz14_0 := blk_frozen BK57101.out 0; have hfz14_1 := blk_frozen BK57101.out 1) | ((with_reducible refine gate_callee (f := 84) rfl ?_); refine goesL_ (some 13) rfl rfl Tryd.func84 (by kernel_rfl) rfl #[.agg #[.int .u32 a0_0, .int .i64 a0_1]] rfl (by (try simp only [List.map_toArray, List.map_cons, List.map_nil]); first | done | rfl | (simp only [List.length_drop, List.length_take]; rfl)) ?_; (with_reducible refine (virgateref12_Net.calls k a0_0 a0_1 t57103 _ A9.out).mono ?_); rintro e w15 ⟨rfl, hb⟩; refine ⟨_, rfl, ?_⟩; have n0_ := Aside0.mk (blk_below (g := gb57101) (o := .cells #[.int .u32 a0_0, .int .i64 a0_1] 44 (0, 0)) (by (with_reducible repeat (first | refine blk_drewN ?_ _ | refine blk_drew ?_ | refine blk_alloc ?_ _)); exact BK57101.out) hb); have n1_ := Aside0.mk (below_step (by repeat (first | (with_reducible first | exact HB.out | apply below_alloc | apply pw_below_drewN | apply below_drew1 | refine below_set ?_ GE57101.out) | exact HB.out)) hb); clear BK57101; clear HB; have BK57101 := n0_; have HB := n1_; clear n0_ n1_; (try clear hb); (try clear hb2); (try clear hk); (try clear hi)))
        go_ret2
        exact ⟨by first | rfl | (simp [errW_none, errW_some] <;> rfl) | (simp [*, errW_none, errW_some] <;> rfl), by repeat (first | (with_reducible first | exact HB.out | apply below_alloc | apply pw_below_drewN | apply below_drew1 | refine below_set ?_ GE57101.out) | exact HB.out)⟩
      · rw [if_neg c10] at H
        exact absurd H (by simp)
  · replace c3 := Bool.eq_false_iff.mpr c3
    subst c3
    have H1 : (some ((⟨#[]⟩ : ByteArray), false)) = some (r1, r2) := by rw [if_neg (show ¬ (false = true) by decide)] at H; exact H
    clear H
    have H := H1
    clear H1
    simp only [Option.some.injEq, Prod.mk.injEq] at H
    obtain ⟨rfl, rfl⟩ := H
    go_enter Tryd.func57, Tryd.ntmps57
    go_wp2_with (first | ((with_reducible refine gate_dst (N := 1) rfl ?_); refine box_event ?hg (N := 1) ?hd (cs := #[.int .u32 a0_0, .int .i64 a0_1]) (t := 44) ?hr ?_; (case hd => rfl); (case hg => rfl); (case hr => first | (go_simp; done) | (go_simp; rfl)); intro gb57101 hg w16 hbox hb; have n0_ := Aside0.mk (below_step (by repeat (first | (with_reducible first | exact HB.out | apply below_alloc | apply pw_below_drewN | apply below_drew1) | exact HB.out)) hb); have n1_ := Aside0.mk (hbox); have n2_ := Aside0.mk ((by rw [hg]; exact (below_size (by repeat (first | (with_reducible first | exact HB.out | apply below_alloc | apply pw_below_drewN | apply below_drew1) | exact HB.out))) : w.heap.size ≤ gb57101)); have n3_ := Aside0.mk ((by rw [hg]; exact (below_size (by repeat (first | (with_reducible first | exact HB.out | apply below_alloc | apply pw_below_drewN | apply below_drew1) | exact HB.out))) : w.heap.size ≤ gb57101)); clear HB; have HB := n0_; have BK57101 := n1_; have GW57101 := n2_; have GE57101 := n3_; clear n0_ n1_ n2_ n3_; clear hb hbox hg; have hcz17_0 : w16.cell? ⟨gb57101, 0, none⟩ = some (.int .u32 a0_0) := (blk_cell BK57101.out 0).trans rfl; have hcz17_1 : w16.cell? ⟨gb57101, 1, none⟩ = some (.int .i64 a0_1) := (blk_cell BK57101.out 1).trans rfl; have hfz17_0 := blk_frozen BK57101.out 0; have hfz17_1 := blk_frozen BK57101.out 1) | ((with_reducible refine gate_callee (f := 35) rfl ?_); refine goesL_ (some 5) rfl rfl Tryd.func35 (by kernel_rfl) rfl #[.agg #[.int .u32 a0_0, .int .i64 a0_1]] rfl (by (try simp only [List.map_toArray, List.map_cons, List.map_nil]); first | done | rfl | (simp only [List.length_drop, List.length_take]; rfl)) ?_; (with_reducible refine (virgateref02_May.calls k a0_0 a0_1 false _ A2.out).mono ?_); rintro e w18 ⟨rfl, hb⟩; refine ⟨_, rfl, ?_⟩; have n0_ := Aside0.mk (blk_below (g := gb57101) (o := .cells #[.int .u32 a0_0, .int .i64 a0_1] 44 (0, 0)) (by (with_reducible repeat (first | refine blk_drewN ?_ _ | refine blk_drew ?_ | refine blk_alloc ?_ _)); exact BK57101.out) hb); have n1_ := Aside0.mk (below_step (by repeat (first | (with_reducible first | exact HB.out | apply below_alloc | apply pw_below_drewN | apply below_drew1 | refine below_set ?_ GE57101.out) | exact HB.out)) hb); clear BK57101; clear HB; have BK57101 := n0_; have HB := n1_; clear n0_ n1_; (try clear hb); (try clear hb2); (try clear hk); (try clear hi)))
    go_ret2
    exact ⟨by first | rfl | (simp [errW_none, errW_some] <;> rfl) | (simp [*, errW_none, errW_some] <;> rfl), by repeat (first | (with_reducible first | exact HB.out | apply below_alloc | apply pw_below_drewN | apply below_drew1 | refine below_set ?_ GE57101.out) | exact HB.out)⟩
end Go.Proofs.YtcdopgkkieenjaaDoor.V
end

-- INamesP
section
/- The functions of layer 12 as plain functions: the program's and the document's. -/
namespace Go.Proofs.YtcdopgkkieenjaaDoor.V
open Go.RowKit Go.Proofs.YtcdopgkkieenjaaDoorW.PrintWords Go.Proofs.YtcdopgkkieenjaaDoorW.PrintLast Go.Proofs.YtcdopgkkieenjaaDoorW.PrintMore
set_option linter.unusedVariables false
set_option linter.unusedSimpArgs false

/-! ### strings.CutPrefix -/
theorem pre_true (s p : ByteArray) (t : List UInt8) (h : s.data.toList = p.data.toList ++ t) : ∃ q, strings_CutPrefix.f s p = some (q, true) ∧ q.data.toList = t := by
  have h1 := data_length s; have h2 := data_length p
  have hs : s.size = p.size + t.length := by rw [← h1, ← h2, h, List.length_append]
  have e : (s.extract 0 p.size).toList = p.toList := by
    rw [Lib.toList_data, Lib.toList_data, Lib.extract_from_zero, h, ← h2]
    simp
  refine ⟨s.extract p.size s.size, ?_, ?_⟩
  · unfold strings_CutPrefix.f stringslite_CutPrefix.f stringslite_HasPrefix.f
    rw [if_pos (by omega), if_pos (by omega), if_pos (by omega), Option.bind_some, Int.toNat_natCast, e]
    rw [if_pos (by simp), if_pos (by omega), if_pos (by omega)]
    rfl
  · rw [Lib.extract_to_end, h, ← h2]
    simp
/-! ### A net in a key -/
theorem net_f (v n : Nat) (hv : v < 4294967296) (hn : n ≤ 32) (hd : v % sz n = 0) (k : Nat) (hk : 4 ≤ k) : names_net.f k (v : Int) (n : Int) = some (dashT v n) := by
  obtain ⟨h1, h2⟩ := turn_dash hn hd
  have hz := netText_data hn hd
  have hsz : (netText v (n : Int)).size < 1000000 := by
    have := decB_size n; have := ipText_size v
    unfold netText
    rw [if_pos (may_mk hn hd), ByteArray.size_append, ByteArray.size_append, lit1, Int.toNat_natCast]
    omega
  unfold names_net.f strings_Replace.f
  rw [print_f v hv _ k hk, Option.bind_some, if_pos ⟨hsz, rfl, rfl, rfl, by omega⟩, Option.bind_some, h1, Int.toNat_natCast]
  congr 1
  unfold dashAt dashT
  rw [h2]
theorem ofNet_f (s : ByteArray) (hs : s.size ≤ 1000) (k : Nat) (hk : 4 ≤ k) : names_ofNet.f k s = some (match ofDash s with | some (v, n) => ((v : Int), (n : Int), true) | none => (0, 0, false)) := by
  have hc := cutB_size 45 s
  have hcut : strings_Cut.f s (⟨#[45]⟩ : ByteArray) = some (cutB 45 s) := by
    unfold strings_Cut.f
    rw [if_pos (by omega)]
  unfold names_ofNet.f ofDash
  rw [hcut, Option.bind_some, if_pos (by omega), if_pos (by rw [ByteArray.size_append, lit1]; omega)]
  have hp : cidr_Parse.f ((cutB 45 s).1 ++ (⟨#[47]⟩ : ByteArray) ++ (cutB 45 s).2.1) = some (cidrR ((cutB 45 s).1 ++ (⟨#[47]⟩ : ByteArray) ++ (cutB 45 s).2.1)) := by
    unfold cidr_Parse.f
    rw [if_pos (by rw [ByteArray.size_append, ByteArray.size_append, lit1]; omega)]
  rw [hp, Option.bind_some, cidrR_eq]
  cases hq : netR ((cutB 45 s).1 ++ (⟨#[47]⟩ : ByteArray) ++ (cutB 45 s).2.1) with
  | none => rfl
  | some q =>
    obtain ⟨v, n⟩ := q
    obtain ⟨g1, g2, g3, _⟩ := netR_inv hq
    rw [if_pos rfl, net_f v n g1 g2 g3 k hk, Option.bind_some, Option.bind_some]
    by_cases he : dashT v n = s
    · rw [if_pos (by rw [he]), if_pos he]
    · rw [if_neg (fun h => he (data_ext (of_toList h))), if_neg he]
theorem sz26 : sz 26 = 64 := by decide
/-- The first address of a block. -/
def firstN (a : Nat) : Nat := a - a % 64
theorem firstN_lt {a : Nat} (ha : a < 4294967296) : firstN a < 4294967296 ∧ firstN a % sz 26 = 0 := by
  rw [sz26]
  unfold firstN
  omega
theorem block12_f (a : Nat) (ha : a < 4294967296) : names_block.f (a : Int) = some ((firstN a : Int), 26) := by
  unfold names_block.f
  rw [block_f a ha, if_neg (by omega)]
  rfl
/-- Which block a text in a key is. -/
def ofBlk (s : ByteArray) : Option Nat := (ofDash s).bind fun q => if q.2 = 26 then some q.1 else none
theorem ofBlk_mk {v : Nat} (hv : v < 4294967296) (hd : v % sz 26 = 0) : ofBlk (dashT v 26) = some v := by
  unfold ofBlk
  rw [ofDash_mk hv (by omega) hd]
  rfl
theorem ofBlock_f (s : ByteArray) (hs : s.size ≤ 1000) (k : Nat) (hk : 4 ≤ k) : names_ofBlock.f k s = some (match ofBlk s with | some v => ((v : Int), true) | none => (0, false)) := by
  unfold names_ofBlock.f ofBlk
  rw [ofNet_f s hs k hk, Option.bind_some]
  cases ofDash s with
  | none => rfl
  | some q =>
    obtain ⟨v, n⟩ := q
    rw [if_pos rfl, Option.bind_some]
    by_cases h : n = 26
    · subst h
      rfl
    · have hn : ¬ ((n : Int) = 26) := by omega
      simp [h, hn]
theorem block_name_f (a : Nat) (ha : a < 4294967296) (k : Nat) (hk : 4 ≤ k) : names_Block.f k (a : Int) = some ((⟨#[98, 108, 111, 99, 107, 47]⟩ : ByteArray) ++ dashT (firstN a) 26) := by
  obtain ⟨h1, h2⟩ := firstN_lt ha
  have h3 := dashT_size (firstN a) 26
  unfold names_Block.f
  rw [block12_f a ha, Option.bind_some, show (26 : Int) = ((26 : Nat) : Int) from rfl, net_f _ 26 h1 (by omega) h2 k hk, Option.bind_some, if_pos (by omega)]
theorem named_f (p s : ByteArray) (hp : p.size + s.size ≤ 1000000) : names_named.f p s = some (if rightName s = true then (p ++ s, 0) else (⟨#[]⟩, 1)) := by
  unfold names_named.f names_Right.f
  rw [Option.bind_some]
  cases rightName s with
  | true => rw [if_pos rfl, if_pos (by omega), if_pos rfl]
  | false => rfl
end Go.Proofs.YtcdopgkkieenjaaDoor.V
end

-- VFNamesOfblockX59
section
-- PRINTED by print.py (a twelfth state) out of the translation. Not trusted: Lean checks it.
namespace Go.Proofs.YtcdopgkkieenjaaDoor.V
open Go.RowKit Go.Proofs.YtcdopgkkieenjaaDoorW.PrintWords Go.Proofs.YtcdopgkkieenjaaDoorW.PrintLast Go.Proofs.YtcdopgkkieenjaaDoorW.PrintMore
attribute [local go_sem] max2_int min2_int max_two min_two max_three min_three max_four min_four   -- for this text's walks alone
set_option linter.unusedVariables false
set_option linter.unusedSimpArgs false

/-! ### names_OfBlock: function 59 -/
def names_OfBlock.f (k : Nat) (a0 : ByteArray) : Option (Int × Bool) := (strings_CutPrefix.f a0 (⟨#[98, 108, 111, 99, 107, 47]⟩ : ByteArray)).bind fun bt59101 => ((names_ofBlock.f k bt59101.1).bind fun bt59103 => (if bt59101.2 = true then (if bt59103.2 = true then (some (bt59103.1, true)) else (some (0, false))) else (some (0, false))))
theorem names_OfBlock.mono : ∀ a0 k, LeO (names_OfBlock.f k a0) (names_OfBlock.f (k + 1) a0) := by
  intro a0 k
  unfold names_OfBlock.f
  repeat' first
      | (with_reducible exact names_ofBlock.mono _ _)
      | (with_reducible exact LeO.refl _)
      | (with_reducible exact LeO.none _)
      | (with_reducible refine LeO.ite ?_ ?_)
      | (with_reducible refine LeO.bind ?_ (fun _ => ?_))
      | exact names_ofBlock.mono _ _
      | exact LeO.none _
      | refine LeO.ite ?_ ?_
      | refine LeO.bind ?_ (fun _ => ?_)
set_option maxHeartbeats 8000000 in
set_option maxRecDepth 100000 in
theorem names_OfBlock.calls (k : Nat) (a0 : ByteArray) (r1 : Int) (r2 : Bool) (w : World) (h : names_OfBlock.f k a0 = some (r1, r2)) :
    Calls Tryd.prog 59 #[.string a0] w fun e w' => e = .returned (.tuple #[.int .u32 r1, .bool r2]) ∧ Below w.heap.size w w' := by
  have HB := Aside0.mk (Below.refl w.heap.size w)
  have H : ((strings_CutPrefix.f a0 (⟨#[98, 108, 111, 99, 107, 47]⟩ : ByteArray)).bind fun bt59101 => ((names_ofBlock.f k bt59101.1).bind fun bt59103 => (if bt59101.2 = true then (if bt59103.2 = true then (some (bt59103.1, true)) else (some (0, false))) else (some (0, false))))) = some (r1, r2) := h
  clear h
  replace H := Option.bind_eq_some_iff.mp H
  obtain ⟨⟨t59101, t59102⟩, A20, H⟩ := H
  replace H : ((names_ofBlock.f k t59101).bind fun bt59103 => (if t59102 = true then (if bt59103.2 = true then (some (bt59103.1, true)) else (some (0, false))) else (some (0, false)))) = some (r1, r2) := H
  have A2 := Aside0.mk A20
  clear A20
  replace H := Option.bind_eq_some_iff.mp H
  obtain ⟨⟨t59103, t59104⟩, A30, H⟩ := H
  replace H : (if t59102 = true then (if t59104 = true then (some (t59103, true)) else (some (0, false))) else (some (0, false))) = some (r1, r2) := H
  have A3 := Aside0.mk A30
  clear A30
  by_cases c4 : t59102 = true
  · subst c4
    have H1 : (if t59104 = true then (some (t59103, true)) else (some (0, false))) = some (r1, r2) := by rw [if_pos rfl] at H; exact H
    clear H
    have H := H1
    clear H1
    by_cases c5 : t59104 = true
    · subst c5
      have H1 : (some (t59103, true)) = some (r1, r2) := by rw [if_pos rfl] at H; exact H
      clear H
      have H := H1
      clear H1
      simp only [Option.some.injEq, Prod.mk.injEq] at H
      obtain ⟨rfl, rfl⟩ := H
      go_enter Tryd.func59, Tryd.ntmps59
      go_wp2_with (first | ((with_reducible refine gate_callee (f := 85) rfl ?_); refine goesL_ (some 10) rfl rfl Tryd.func85 (by kernel_rfl) rfl #[.string a0, .string (⟨#[98, 108, 111, 99, 107, 47]⟩ : ByteArray)] rfl (by (try simp only [List.map_toArray, List.map_cons, List.map_nil]); first | done | rfl | (simp only [List.length_drop, List.length_take]; rfl)) ?_; (with_reducible refine (strings_CutPrefix.calls a0 (⟨#[98, 108, 111, 99, 107, 47]⟩ : ByteArray) t59101 true _ A2.out).mono ?_); rintro e w' ⟨rfl, ⟨nd, rfl⟩⟩; refine ⟨_, rfl, ?_⟩) | ((with_reducible refine gate_callee (f := 87) rfl ?_); refine goesL_ (some 15) rfl rfl Tryd.func87 (by kernel_rfl) rfl #[.string t59101] rfl (by (try simp only [List.map_toArray, List.map_cons, List.map_nil]); first | done | rfl | (simp only [List.length_drop, List.length_take]; rfl)) ?_; (with_reducible refine (names_ofBlock.calls k t59101 t59103 true _ A3.out).mono ?_); rintro e w6 ⟨rfl, hb⟩; refine ⟨_, rfl, ?_⟩; have n0_ := Aside0.mk (below_step (by repeat (first | (with_reducible first | exact HB.out | apply below_alloc | apply pw_below_drewN | apply below_drew1) | exact HB.out)) hb); clear HB; have HB := n0_; clear n0_; (try clear hb); (try clear hb2); (try clear hk); (try clear hi)))
      go_ret2
      exact ⟨by first | rfl | (simp [errW_none, errW_some] <;> rfl) | (simp [*, errW_none, errW_some] <;> rfl), by repeat (first | (with_reducible first | exact HB.out | apply below_alloc | apply pw_below_drewN | apply below_drew1) | exact HB.out)⟩
    · replace c5 := Bool.eq_false_iff.mpr c5
      subst c5
      have H1 : (some (0, false)) = some (r1, r2) := by rw [if_neg (show ¬ (false = true) by decide)] at H; exact H
      clear H
      have H := H1
      clear H1
      simp only [Option.some.injEq, Prod.mk.injEq] at H
      obtain ⟨rfl, rfl⟩ := H
      go_enter Tryd.func59, Tryd.ntmps59
      go_wp2_with (first | ((with_reducible refine gate_callee (f := 85) rfl ?_); refine goesL_ (some 10) rfl rfl Tryd.func85 (by kernel_rfl) rfl #[.string a0, .string (⟨#[98, 108, 111, 99, 107, 47]⟩ : ByteArray)] rfl (by (try simp only [List.map_toArray, List.map_cons, List.map_nil]); first | done | rfl | (simp only [List.length_drop, List.length_take]; rfl)) ?_; (with_reducible refine (strings_CutPrefix.calls a0 (⟨#[98, 108, 111, 99, 107, 47]⟩ : ByteArray) t59101 true _ A2.out).mono ?_); rintro e w' ⟨rfl, ⟨nd, rfl⟩⟩; refine ⟨_, rfl, ?_⟩) | ((with_reducible refine gate_callee (f := 87) rfl ?_); refine goesL_ (some 15) rfl rfl Tryd.func87 (by kernel_rfl) rfl #[.string t59101] rfl (by (try simp only [List.map_toArray, List.map_cons, List.map_nil]); first | done | rfl | (simp only [List.length_drop, List.length_take]; rfl)) ?_; (with_reducible refine (names_ofBlock.calls k t59101 t59103 false _ A3.out).mono ?_); rintro e w7 ⟨rfl, hb⟩; refine ⟨_, rfl, ?_⟩; have n0_ := Aside0.mk (below_step (by repeat (first | (with_reducible first | exact HB.out | apply below_alloc | apply pw_below_drewN | apply below_drew1) | exact HB.out)) hb); clear HB; have HB := n0_; clear n0_; (try clear hb); (try clear hb2); (try clear hk); (try clear hi)))
      go_ret2
      exact ⟨by first | rfl | (simp [errW_none, errW_some] <;> rfl) | (simp [*, errW_none, errW_some] <;> rfl), by repeat (first | (with_reducible first | exact HB.out | apply below_alloc | apply pw_below_drewN | apply below_drew1) | exact HB.out)⟩
  · replace c4 := Bool.eq_false_iff.mpr c4
    subst c4
    have H1 : (some (0, false)) = some (r1, r2) := by rw [if_neg (show ¬ (false = true) by decide)] at H; exact H
    clear H
    have H := H1
    clear H1
    simp only [Option.some.injEq, Prod.mk.injEq] at H
    obtain ⟨rfl, rfl⟩ := H
    go_enter Tryd.func59, Tryd.ntmps59
    go_wp2_with (first | ((with_reducible refine gate_callee (f := 85) rfl ?_); refine goesL_ (some 10) rfl rfl Tryd.func85 (by kernel_rfl) rfl #[.string a0, .string (⟨#[98, 108, 111, 99, 107, 47]⟩ : ByteArray)] rfl (by (try simp only [List.map_toArray, List.map_cons, List.map_nil]); first | done | rfl | (simp only [List.length_drop, List.length_take]; rfl)) ?_; (with_reducible refine (strings_CutPrefix.calls a0 (⟨#[98, 108, 111, 99, 107, 47]⟩ : ByteArray) t59101 false _ A2.out).mono ?_); rintro e w' ⟨rfl, ⟨nd, rfl⟩⟩; refine ⟨_, rfl, ?_⟩) | ((with_reducible refine gate_callee (f := 87) rfl ?_); refine goesL_ (some 15) rfl rfl Tryd.func87 (by kernel_rfl) rfl #[.string t59101] rfl (by (try simp only [List.map_toArray, List.map_cons, List.map_nil]); first | done | rfl | (simp only [List.length_drop, List.length_take]; rfl)) ?_; (with_reducible refine (names_ofBlock.calls k t59101 t59103 t59104 _ A3.out).mono ?_); rintro e w8 ⟨rfl, hb⟩; refine ⟨_, rfl, ?_⟩; have n0_ := Aside0.mk (below_step (by repeat (first | (with_reducible first | exact HB.out | apply below_alloc | apply pw_below_drewN | apply below_drew1) | exact HB.out)) hb); clear HB; have HB := n0_; clear n0_; (try clear hb); (try clear hb2); (try clear hk); (try clear hi)))
    go_ret2
    exact ⟨by first | rfl | (simp [errW_none, errW_some] <;> rfl) | (simp [*, errW_none, errW_some] <;> rfl), by repeat (first | (with_reducible first | exact HB.out | apply below_alloc | apply pw_below_drewN | apply below_drew1) | exact HB.out)⟩
end Go.Proofs.YtcdopgkkieenjaaDoor.V
end

-- INamesQ
section
/- The keys' functions of layer 12, and the document's. -/
namespace Go.Proofs.YtcdopgkkieenjaaDoor.V
open Go.RowKit Go.Proofs.YtcdopgkkieenjaaDoorW.PrintWords Go.Proofs.YtcdopgkkieenjaaDoorW.PrintLast Go.Proofs.YtcdopgkkieenjaaDoorW.PrintMore
set_option linter.unusedVariables false
set_option linter.unusedSimpArgs false

def pBlock : ByteArray := ⟨#[98, 108, 111, 99, 107, 47]⟩
def pAff : ByteArray := ⟨#[97, 102, 102, 47]⟩
theorem app_data (p t : ByteArray) : (p ++ t).data.toList = p.data.toList ++ t.data.toList := by simp
/-- A text behind a beginning. -/
theorem pre_app (p t : ByteArray) : strings_CutPrefix.f (p ++ t) p = some (t, true) := by
  obtain ⟨q, h1, h2⟩ := pre_true (p ++ t) p t.data.toList (app_data p t)
  rw [h1, data_ext h2]
theorem ofBlock_mk (v : Nat) (hv : v < 4294967296) (hd : firstN v = v) (k : Nat) (hk : 4 ≤ k) : names_OfBlock.f k (pBlock ++ dashT v 26) = some ((v : Int), true) := by
  have h3 := dashT_size v 26
  have hd2 : v % sz 26 = 0 := by rw [sz26]; unfold firstN at hd; omega
  unfold names_OfBlock.f
  rw [show (pBlock ++ dashT v 26) = ((⟨#[98, 108, 111, 99, 107, 47]⟩ : ByteArray) ++ dashT v 26) from rfl, pre_app, Option.bind_some, ofBlock_f _ (by first | omega | (dsimp only; omega)) k hk, Option.bind_some, ofBlk_mk hv hd2, if_pos rfl]
  rfl
theorem ofName_mk (p s : ByteArray) (h : rightName s = true) : names_ofName.f (p ++ s) p = some (s, true) := by
  unfold names_ofName.f names_Right.f
  rw [pre_app, Option.bind_some, if_pos rfl, Option.bind_some, h, if_pos rfl]
theorem right_size {s : ByteArray} (h : rightName s = true) : 0 < s.size ∧ s.size ≤ 64 := by
  unfold rightName at h
  simp only [Bool.and_eq_true, decide_eq_true_eq] at h
  exact ⟨h.1.2, h.2⟩
theorem right_no47 {s : ByteArray} (h : rightName s = true) : (47 : UInt8) ∉ s.data.toList := by
  unfold rightName allFrom at h
  simp only [Bool.and_eq_true, List.drop_zero, List.all_eq_true] at h
  intro hm
  have := h.1.1 47 hm
  revert this
  decide
/-- The key of an affinity. -/
def affT (s : ByteArray) (a : Nat) : ByteArray := pAff ++ s ++ (⟨#[47]⟩ : ByteArray) ++ dashT (firstN a) 26
theorem affsOf_f (s : ByteArray) (hs : s.size ≤ 1000) : names_AffsOf.f s = some (if rightName s = true then (pAff ++ s ++ (⟨#[47]⟩ : ByteArray), 0) else (⟨#[]⟩, 1)) := by
  have hp : (⟨#[97, 102, 102, 47]⟩ : ByteArray).size = 4 := rfl
  unfold names_AffsOf.f
  rw [named_f _ s (by first | omega | (dsimp only; omega)), Option.bind_some]
  cases rightName s with
  | true =>
    rw [if_pos rfl, if_pos rfl, if_pos (by rw [ByteArray.size_append]; omega), if_pos rfl]
    rfl
  | false => rfl
theorem aff_f (s : ByteArray) (hs : s.size ≤ 1000) (a : Nat) (ha : a < 4294967296) (k : Nat) (hk : 4 ≤ k) : names_Aff.f k s (a : Int) = some (if rightName s = true then (affT s a, 0) else (⟨#[]⟩, 1)) := by
  obtain ⟨h1, h2⟩ := firstN_lt ha
  have h3 := dashT_size (firstN a) 26
  have hp : pAff.size = 4 := rfl
  unfold names_Aff.f
  rw [affsOf_f s hs, Option.bind_some]
  cases rightName s with
  | true =>
    rw [if_pos rfl, if_pos rfl, block12_f a ha, Option.bind_some, show (26 : Int) = ((26 : Nat) : Int) from rfl, net_f _ 26 h1 (by first | omega | (dsimp only; omega)) h2 k hk, Option.bind_some, if_pos (by rw [ByteArray.size_append, ByteArray.size_append, lit1]; omega), if_pos rfl]
    rfl
  | false => rfl
theorem affT_parts (s : ByteArray) (a : Nat) : affT s a = pAff ++ (s ++ ((⟨#[47]⟩ : ByteArray) ++ dashT (firstN a) 26)) := by
  apply data_ext
  simp [affT]
theorem ofAff_mk (s : ByteArray) (a : Nat) (hr : rightName s = true) (ha : a < 4294967296) (k : Nat) (hk : 4 ≤ k) : names_OfAff.f k (affT s a) = some (s, (firstN a : Int), true) := by
  obtain ⟨h1, h2⟩ := firstN_lt ha
  have h3 := dashT_size (firstN a) 26
  have h4 := right_size hr
  obtain ⟨c1, c2, c3⟩ := cut_of 47 (s ++ ((⟨#[47]⟩ : ByteArray) ++ dashT (firstN a) 26)) s.data.toList (dashT (firstN a) 26).data.toList (by rw [app_data, app_data]; rfl) (right_no47 hr)
  have hz : (s ++ ((⟨#[47]⟩ : ByteArray) ++ dashT (firstN a) 26)).size ≤ 1000 := by rw [ByteArray.size_append, ByteArray.size_append, lit1]; omega
  have hcut : strings_Cut.f (s ++ ((⟨#[47]⟩ : ByteArray) ++ dashT (firstN a) 26)) (⟨#[47]⟩ : ByteArray) = some (s, dashT (firstN a) 26, true) := by
    unfold strings_Cut.f
    rw [if_pos (by first | omega | (dsimp only; omega))]
    show some (cutB 47 _) = _
    congr 1
    exact Prod.ext (data_ext c1) (Prod.ext (data_ext c2) c3)
  unfold names_OfAff.f names_Right.f
  rw [affT_parts, show pAff = (⟨#[97, 102, 102, 47]⟩ : ByteArray) from rfl, pre_app, Option.bind_some, hcut, Option.bind_some, ofBlock_f _ (by first | omega | (dsimp only; omega)) k hk, Option.bind_some, ofBlk_mk h1 h2, if_pos rfl, if_pos rfl, Option.bind_some, hr, if_pos rfl]
/-! ### The document's -/
theorem rfirst_f (a : Nat) (ha : a < 4294967296) : virgateref12_First.f (a : Int) = some ((firstN a : Nat) : Int) := by
  unfold virgateref12_First.f firstN
  rw [show Int.tmod (a : Int) 64 = ((a % 64 : Nat) : Int) from rfl]
  congr 1
  omega
theorem rnet_f (v n : Nat) (hv : v < 4294967296) (hn : n < 256) (k : Nat) (hk : 4 ≤ k) : virgateref12_Net.f k (v : Int) (n : Int) = some (dashT v n) := by
  have h1 := ipText_size v; have h2 := decB_size n
  unfold virgateref12_Net.f
  rw [rprint_f v hv k hk, Option.bind_some, if_pos (by first | omega | (dsimp only; omega)), rnum_f n hn k hk, Option.bind_some, if_pos (by rw [ByteArray.size_append, lit1]; omega)]
  congr 1
  apply data_ext
  rw [dashT_data, app_data, app_data, ipText_data, decB_data]
  simp [dashL]
theorem raff_f (s : ByteArray) (hs : s.size ≤ 1000) (a : Nat) (ha : a < 4294967296) (k : Nat) (hk : 4 ≤ k) : virgateref12_Aff.f k s (a : Int) = some (affT s a) := by
  obtain ⟨h1, h2⟩ := firstN_lt ha
  have h3 := dashT_size (firstN a) 26
  have hp : (⟨#[97, 102, 102, 47]⟩ : ByteArray).size = 4 := rfl
  unfold virgateref12_Aff.f
  rw [if_pos (by first | omega | (dsimp only; omega)), if_pos (by rw [ByteArray.size_append]; omega), rfirst_f a ha, Option.bind_some, show (26 : Int) = ((26 : Nat) : Int) from rfl, rnet_f _ 26 h1 (by first | omega | (dsimp only; omega)) k hk, Option.bind_some, if_pos (by simp only [ByteArray.size_append, lit1]; omega)]
  rfl
end Go.Proofs.YtcdopgkkieenjaaDoor.V
end

