/- The law NamesNamed for every input: texts of ours, put together (part 8 of 10). No further condition. -/
import Derived.Test.YtcdopgkkieenjaaDoorCNamesNamedx1
import Derived.Test.YtcdopgkkieenjaaDoorCNamesNamedx6
import Derived.Test.YtcdopgkkieenjaaDoorCNamesNamedx5
import Derived.Test.YtcdopgkkieenjaaDoorCNamesNamedx2
import Derived.ChangeSame
import Derived.WideShapes
-- VFVirgatelaw12Awake
section
-- PRINTED by print.py (a twelfth state) out of the translation. Not trusted: Lean checks it.
namespace Go.Proofs.YtcdopgkkieenjaaDoor.V
open Go.RowKit Go.Proofs.YtcdopgkkieenjaaDoorW.PrintWords Go.Proofs.YtcdopgkkieenjaaDoorW.PrintLast Go.Proofs.YtcdopgkkieenjaaDoorW.PrintMore
attribute [local go_sem] max2_int min2_int max_two min_two max_three min_three max_four min_four   -- for this text's walks alone
set_option linter.unusedVariables false
set_option linter.unusedSimpArgs false

/-! ### virgatelaw12_awake: function 63 -/
def virgatelaw12_awake.f (k : Nat)  : Option (Bool) := (names_Block.f k 167772230).bind fun t63101 => ((names_OfBlock.f k t63101).bind fun bt63102 => (if t63101.toList = ([98, 108, 111, 99, 107, 47, 49, 48, 46, 48, 46, 48, 46, 54, 52, 45, 50, 54] : List UInt8) then (if bt63102.1 = 167772224 then (some bt63102.2) else (some false)) else (some false)))
theorem virgatelaw12_awake.mono : ∀ k, LeO (virgatelaw12_awake.f k ) (virgatelaw12_awake.f (k + 1) ) := by
  intro  k
  unfold virgatelaw12_awake.f
  repeat' first
      | (with_reducible exact names_Block.mono _ _)
      | (with_reducible exact names_OfBlock.mono _ _)
      | (with_reducible exact LeO.refl _)
      | (with_reducible exact LeO.none _)
      | (with_reducible refine LeO.ite ?_ ?_)
      | (with_reducible refine LeO.bind ?_ (fun _ => ?_))
      | exact names_Block.mono _ _
      | exact names_OfBlock.mono _ _
      | exact LeO.none _
      | refine LeO.ite ?_ ?_
      | refine LeO.bind ?_ (fun _ => ?_)
set_option maxHeartbeats 8000000 in
set_option maxRecDepth 100000 in
theorem virgatelaw12_awake.calls (k : Nat)  (r : Bool) (w : World) (h : virgatelaw12_awake.f k  = some r) :
    Calls Tryd.prog 63 #[] w fun e w' => e = .returned (.bool r) ∧ Below w.heap.size w w' := by
  have HB := Aside0.mk (Below.refl w.heap.size w)
  have H : ((names_Block.f k 167772230).bind fun t63101 => ((names_OfBlock.f k t63101).bind fun bt63102 => (if t63101.toList = ([98, 108, 111, 99, 107, 47, 49, 48, 46, 48, 46, 48, 46, 54, 52, 45, 50, 54] : List UInt8) then (if bt63102.1 = 167772224 then (some bt63102.2) else (some false)) else (some false)))) = some r := h
  clear h
  replace H := Option.bind_eq_some_iff.mp H
  obtain ⟨t63101, A10, H⟩ := H
  replace H : ((names_OfBlock.f k t63101).bind fun bt63102 => (if t63101.toList = ([98, 108, 111, 99, 107, 47, 49, 48, 46, 48, 46, 48, 46, 54, 52, 45, 50, 54] : List UInt8) then (if bt63102.1 = 167772224 then (some bt63102.2) else (some false)) else (some false))) = some r := H
  have A1 := Aside0.mk A10
  clear A10
  replace H := Option.bind_eq_some_iff.mp H
  obtain ⟨⟨t63102, t63103⟩, A20, H⟩ := H
  replace H : (if t63101.toList = ([98, 108, 111, 99, 107, 47, 49, 48, 46, 48, 46, 48, 46, 54, 52, 45, 50, 54] : List UInt8) then (if t63102 = 167772224 then (some t63103) else (some false)) else (some false)) = some r := H
  have A2 := Aside0.mk A20
  clear A20
  by_cases c3 : t63101.toList = ([98, 108, 111, 99, 107, 47, 49, 48, 46, 48, 46, 48, 46, 54, 52, 45, 50, 54] : List UInt8)
  · rw [if_pos c3] at H
    have c3b0 : (t63101.toList == ([98, 108, 111, 99, 107, 47, 49, 48, 46, 48, 46, 48, 46, 54, 52, 45, 50, 54] : List UInt8)) = true := beq_iff_eq.mpr c3
    have c3b1 : (t63101.toList != ([98, 108, 111, 99, 107, 47, 49, 48, 46, 48, 46, 48, 46, 54, 52, 45, 50, 54] : List UInt8)) = false := bne_eq_false_iff_eq.mpr c3
    clear c3
    by_cases c4 : t63102 = 167772224
    · rw [if_pos c4] at H
      have c4b0 : (t63102 == 167772224) = true := beq_iff_eq.mpr c4
      have c4b1 : (t63102 != 167772224) = false := bne_eq_false_iff_eq.mpr c4
      clear c4
      obtain rfl := Option.some.inj H
      go_enter Tryd.func63, Tryd.ntmps63
      go_wp2_with (first | ((with_reducible refine gate_callee (f := 60) rfl ?_); refine goesL_ (some 4) rfl rfl Tryd.func60 (by kernel_rfl) rfl #[.int .u32 167772230] rfl (by (try simp only [List.map_toArray, List.map_cons, List.map_nil]); first | done | rfl | (simp only [List.length_drop, List.length_take]; rfl)) ?_; (with_reducible refine (names_Block.calls k 167772230 t63101 _ A1.out).mono ?_); rintro e w5 ⟨rfl, hb⟩; refine ⟨_, rfl, ?_⟩; have n0_ := Aside0.mk (below_step (by repeat (first | (with_reducible first | exact HB.out | apply below_alloc | apply pw_below_drewN | apply below_drew1) | exact HB.out)) hb); clear HB; have HB := n0_; clear n0_; (try clear hb); (try clear hb2); (try clear hk); (try clear hi)) | ((with_reducible refine gate_callee (f := 59) rfl ?_); refine goesL_ (some 7) rfl rfl Tryd.func59 (by kernel_rfl) rfl #[.string t63101] rfl (by (try simp only [List.map_toArray, List.map_cons, List.map_nil]); first | done | rfl | (simp only [List.length_drop, List.length_take]; rfl)) ?_; (with_reducible refine (names_OfBlock.calls k t63101 t63102 t63103 _ A2.out).mono ?_); rintro e w6 ⟨rfl, hb⟩; refine ⟨_, rfl, ?_⟩; have n0_ := Aside0.mk (below_step (by repeat (first | (with_reducible first | exact HB.out | apply below_alloc | apply pw_below_drewN | apply below_drew1) | exact HB.out)) hb); clear HB; have HB := n0_; clear n0_; (try clear hb); (try clear hb2); (try clear hk); (try clear hi)))
      go_ret
      exact ⟨by first | rfl | (simp [errW_none, errW_some] <;> rfl) | (simp [*, errW_none, errW_some] <;> rfl), by repeat (first | (with_reducible first | exact HB.out | apply below_alloc | apply pw_below_drewN | apply below_drew1) | exact HB.out)⟩
    · rw [if_neg c4] at H
      have c4b0 : (t63102 == 167772224) = false := beq_eq_false_iff_ne.mpr c4
      have c4b1 : (t63102 != 167772224) = true := bne_iff_ne.mpr c4
      obtain rfl := Option.some.inj H
      go_enter Tryd.func63, Tryd.ntmps63
      go_wp2_with (first | ((with_reducible refine gate_callee (f := 60) rfl ?_); refine goesL_ (some 4) rfl rfl Tryd.func60 (by kernel_rfl) rfl #[.int .u32 167772230] rfl (by (try simp only [List.map_toArray, List.map_cons, List.map_nil]); first | done | rfl | (simp only [List.length_drop, List.length_take]; rfl)) ?_; (with_reducible refine (names_Block.calls k 167772230 t63101 _ A1.out).mono ?_); rintro e w7 ⟨rfl, hb⟩; refine ⟨_, rfl, ?_⟩; have n0_ := Aside0.mk (below_step (by repeat (first | (with_reducible first | exact HB.out | apply below_alloc | apply pw_below_drewN | apply below_drew1) | exact HB.out)) hb); clear HB; have HB := n0_; clear n0_; (try clear hb); (try clear hb2); (try clear hk); (try clear hi)) | ((with_reducible refine gate_callee (f := 59) rfl ?_); refine goesL_ (some 7) rfl rfl Tryd.func59 (by kernel_rfl) rfl #[.string t63101] rfl (by (try simp only [List.map_toArray, List.map_cons, List.map_nil]); first | done | rfl | (simp only [List.length_drop, List.length_take]; rfl)) ?_; (with_reducible refine (names_OfBlock.calls k t63101 t63102 t63103 _ A2.out).mono ?_); rintro e w8 ⟨rfl, hb⟩; refine ⟨_, rfl, ?_⟩; have n0_ := Aside0.mk (below_step (by repeat (first | (with_reducible first | exact HB.out | apply below_alloc | apply pw_below_drewN | apply below_drew1) | exact HB.out)) hb); clear HB; have HB := n0_; clear n0_; (try clear hb); (try clear hb2); (try clear hk); (try clear hi)))
      go_ret
      exact ⟨by first | rfl | (simp [errW_none, errW_some] <;> rfl) | (simp [*, errW_none, errW_some] <;> rfl), by repeat (first | (with_reducible first | exact HB.out | apply below_alloc | apply pw_below_drewN | apply below_drew1) | exact HB.out)⟩
  · rw [if_neg c3] at H
    have c3b0 : (t63101.toList == ([98, 108, 111, 99, 107, 47, 49, 48, 46, 48, 46, 48, 46, 54, 52, 45, 50, 54] : List UInt8)) = false := beq_eq_false_iff_ne.mpr c3
    have c3b1 : (t63101.toList != ([98, 108, 111, 99, 107, 47, 49, 48, 46, 48, 46, 48, 46, 54, 52, 45, 50, 54] : List UInt8)) = true := bne_iff_ne.mpr c3
    obtain rfl := Option.some.inj H
    go_enter Tryd.func63, Tryd.ntmps63
    go_wp2_with (first | ((with_reducible refine gate_callee (f := 60) rfl ?_); refine goesL_ (some 4) rfl rfl Tryd.func60 (by kernel_rfl) rfl #[.int .u32 167772230] rfl (by (try simp only [List.map_toArray, List.map_cons, List.map_nil]); first | done | rfl | (simp only [List.length_drop, List.length_take]; rfl)) ?_; (with_reducible refine (names_Block.calls k 167772230 t63101 _ A1.out).mono ?_); rintro e w9 ⟨rfl, hb⟩; refine ⟨_, rfl, ?_⟩; have n0_ := Aside0.mk (below_step (by repeat (first | (with_reducible first | exact HB.out | apply below_alloc | apply pw_below_drewN | apply below_drew1) | exact HB.out)) hb); clear HB; have HB := n0_; clear n0_; (try clear hb); (try clear hb2); (try clear hk); (try clear hi)) | ((with_reducible refine gate_callee (f := 59) rfl ?_); refine goesL_ (some 7) rfl rfl Tryd.func59 (by kernel_rfl) rfl #[.string t63101] rfl (by (try simp only [List.map_toArray, List.map_cons, List.map_nil]); first | done | rfl | (simp only [List.length_drop, List.length_take]; rfl)) ?_; (with_reducible refine (names_OfBlock.calls k t63101 t63102 t63103 _ A2.out).mono ?_); rintro e w10 ⟨rfl, hb⟩; refine ⟨_, rfl, ?_⟩; have n0_ := Aside0.mk (below_step (by repeat (first | (with_reducible first | exact HB.out | apply below_alloc | apply pw_below_drewN | apply below_drew1) | exact HB.out)) hb); clear HB; have HB := n0_; clear n0_; (try clear hb); (try clear hb2); (try clear hk); (try clear hi)))
    go_ret
    exact ⟨by first | rfl | (simp [errW_none, errW_some] <;> rfl) | (simp [*, errW_none, errW_some] <;> rfl), by repeat (first | (with_reducible first | exact HB.out | apply below_alloc | apply pw_below_drewN | apply below_drew1) | exact HB.out)⟩
end Go.Proofs.YtcdopgkkieenjaaDoor.V
end

-- VE46
section
-- PRINTED by print.py (a twelfth state) out of the translation. Not trusted: Lean checks it.
namespace Go.Proofs.YtcdopgkkieenjaaDoor.V
open Go.RowKit Go.Proofs.YtcdopgkkieenjaaDoorW.PrintWords Go.Proofs.YtcdopgkkieenjaaDoorW.PrintLast Go.Proofs.YtcdopgkkieenjaaDoorW.PrintMore
attribute [local go_sem] max2_int min2_int max_two min_two max_three min_three max_four min_four   -- for this text's walks alone
set_option linter.unusedVariables false
set_option linter.unusedSimpArgs false

theorem eqA46 (d : Nat) (w : World) (x0 y0 : Int) (x1 y1 : Int) :
    (Op.equalIn (d + 2) 46 (.agg #[.int .u32 x0, .int .i64 x1]) (.agg #[.int .u32 y0, .int .i64 y1])).run Tryd.prog w = .ok (x0 == y0 && (x1 == y1)) w := by
  refine eqA_of Tryd.underlying46 (by kernel_rfl) ?_
  refine eqf_cons (by rfl) (by go_simp; rfl) (by go_simp; rfl) (by go_simp) ?_
  exact eqf_last (by rfl) (by go_simp; rfl) (by go_simp; rfl) (by go_simp)
end Go.Proofs.YtcdopgkkieenjaaDoor.V
end

-- VFVirgatelaw12Namesnets
section
-- PRINTED by print.py (a twelfth state) out of the translation. Not trusted: Lean checks it.
namespace Go.Proofs.YtcdopgkkieenjaaDoor.V
open Go.RowKit Go.Proofs.YtcdopgkkieenjaaDoorW.PrintWords Go.Proofs.YtcdopgkkieenjaaDoorW.PrintLast Go.Proofs.YtcdopgkkieenjaaDoorW.PrintMore
attribute [local go_sem] max2_int min2_int max_two min_two max_three min_three max_four min_four   -- for this text's walks alone
set_option linter.unusedVariables false
set_option linter.unusedSimpArgs false

attribute [local go_sem high] eqA46
/-! ### virgatelaw12_NamesNets: function 14 -/
def virgatelaw12_NamesNets.j0 : Nat → Int → Bool → Option (Bool)
  | 0, _, _ => none
  | k + 1, x1, x65 => if x65 = true then (some false) else ((names_Block.f k x1).bind fun t14110 => ((names_OfBlock.f k t14110).bind fun bt14111 => ((names_Block.f k x1).bind fun t14113 => ((virgateref12_Block.f k x1).bind fun t14114 => (if t14113.toList = t14114.toList then (if bt14111.2 = true then ((virgateref12_First.f x1).bind fun t14115 => (if bt14111.1 = t14115 then ((virgatelaw12_awake.f k).bind fun t14116 => (some t14116)) else (some false))) else (some false)) else (some false))))))
def virgatelaw12_NamesNets.f (k : Nat) (a0_0 : Int) (a0_1 : Int) (a1 : Int) : Option (Bool) := (names_Pool.f k a0_0 a0_1).bind fun bt14102 => ((virgateref12_Pool.f k a0_0 a0_1).bind fun bt14104 => ((names_OfPool.f k bt14102.1).bind fun bt14106 => (if ((bt14102.2 == 0) != bt14104.2) = true then (virgatelaw12_NamesNets.j0 k a1 true) else (if bt14104.2 = true then (if bt14102.1.toList = bt14104.1.toList then (if (bt14106.2.2 != bt14104.2) = true then (virgatelaw12_NamesNets.j0 k a1 true) else (virgatelaw12_NamesNets.j0 k a1 (!(bt14106.1 == a0_0) || (!(bt14106.2.1 == a0_1))))) else (virgatelaw12_NamesNets.j0 k a1 true)) else (if bt14102.2 = 1 then (if bt14102.1.toList = bt14104.1.toList then (if (bt14106.2.2 != bt14104.2) = true then (virgatelaw12_NamesNets.j0 k a1 true) else (virgatelaw12_NamesNets.j0 k a1 false)) else (virgatelaw12_NamesNets.j0 k a1 true)) else (virgatelaw12_NamesNets.j0 k a1 true))))))
theorem virgatelaw12_NamesNets.mono_l : ∀ k, (∀ y0 y1, LeO (virgatelaw12_NamesNets.j0 k y0 y1) (virgatelaw12_NamesNets.j0 (k + 1) y0 y1))
  | 0 => fun _ _ r h => by simp [virgatelaw12_NamesNets.j0] at h
  | k + 1 => by
    have ih0 := virgatelaw12_NamesNets.mono_l k
    · intro y0 y1
      unfold virgatelaw12_NamesNets.j0
      repeat' first
      | (with_reducible exact ih0 _ _)
      | (with_reducible exact names_Block.mono _ _)
      | (with_reducible exact names_OfBlock.mono _ _)
      | (with_reducible exact names_OfPool.mono _ _)
      | (with_reducible exact names_Pool.mono _ _ _)
      | (with_reducible exact virgatelaw12_awake.mono _)
      | (with_reducible exact virgateref12_Block.mono _ _)
      | (with_reducible exact virgateref12_Pool.mono _ _ _)
      | (with_reducible exact LeO.refl _)
      | (with_reducible exact LeO.none _)
      | (with_reducible refine LeO.ite ?_ ?_)
      | (with_reducible refine LeO.bind ?_ (fun _ => ?_))
      | exact ih0 _ _
      | exact names_Block.mono _ _
      | exact names_OfBlock.mono _ _
      | exact names_OfPool.mono _ _
      | exact names_Pool.mono _ _ _
      | exact virgatelaw12_awake.mono _
      | exact virgateref12_Block.mono _ _
      | exact virgateref12_Pool.mono _ _ _
      | exact LeO.none _
      | refine LeO.ite ?_ ?_
      | refine LeO.bind ?_ (fun _ => ?_)
theorem virgatelaw12_NamesNets.mono : ∀ a0 a1 a2 k, LeO (virgatelaw12_NamesNets.f k a0 a1 a2) (virgatelaw12_NamesNets.f (k + 1) a0 a1 a2) := by
  intro a0 a1 a2 k
  have ih0 := virgatelaw12_NamesNets.mono_l k
  unfold virgatelaw12_NamesNets.f
  repeat' first
      | (with_reducible exact ih0 _ _)
      | (with_reducible exact names_Block.mono _ _)
      | (with_reducible exact names_OfBlock.mono _ _)
      | (with_reducible exact names_OfPool.mono _ _)
      | (with_reducible exact names_Pool.mono _ _ _)
      | (with_reducible exact virgatelaw12_awake.mono _)
      | (with_reducible exact virgateref12_Block.mono _ _)
      | (with_reducible exact virgateref12_Pool.mono _ _ _)
      | (with_reducible exact LeO.refl _)
      | (with_reducible exact LeO.none _)
      | (with_reducible refine LeO.ite ?_ ?_)
      | (with_reducible refine LeO.bind ?_ (fun _ => ?_))
      | exact ih0 _ _
      | exact names_Block.mono _ _
      | exact names_OfBlock.mono _ _
      | exact names_OfPool.mono _ _
      | exact names_Pool.mono _ _ _
      | exact virgatelaw12_awake.mono _
      | exact virgateref12_Block.mono _ _
      | exact virgateref12_Pool.mono _ _ _
      | exact LeO.none _
      | refine LeO.ite ?_ ?_
      | refine LeO.bind ?_ (fun _ => ?_)
set_option maxHeartbeats 8000000 in
set_option maxRecDepth 100000 in
theorem virgatelaw12_NamesNets.calls (k : Nat) (a0_0 : Int) (a0_1 : Int) (a1 : Int) (r : Bool) (w : World) (h : virgatelaw12_NamesNets.f k a0_0 a0_1 a1 = some r) :
    Calls Tryd.prog 14 #[.agg #[.int .u32 a0_0, .int .i64 a0_1], .int .u32 a1] w fun e w' => e = .returned (.bool r) ∧ Below w.heap.size w w' := by
  have hu44 := Tryd.underlying44
  have hu46 := Tryd.underlying46
  have HB := Aside0.mk (Below.refl w.heap.size w)
  have H : ((names_Pool.f k a0_0 a0_1).bind fun bt14102 => ((virgateref12_Pool.f k a0_0 a0_1).bind fun bt14104 => ((names_OfPool.f k bt14102.1).bind fun bt14106 => (if ((bt14102.2 == 0) != bt14104.2) = true then (virgatelaw12_NamesNets.j0 k a1 true) else (if bt14104.2 = true then (if bt14102.1.toList = bt14104.1.toList then (if (bt14106.2.2 != bt14104.2) = true then (virgatelaw12_NamesNets.j0 k a1 true) else (virgatelaw12_NamesNets.j0 k a1 (!(bt14106.1 == a0_0) || (!(bt14106.2.1 == a0_1))))) else (virgatelaw12_NamesNets.j0 k a1 true)) else (if bt14102.2 = 1 then (if bt14102.1.toList = bt14104.1.toList then (if (bt14106.2.2 != bt14104.2) = true then (virgatelaw12_NamesNets.j0 k a1 true) else (virgatelaw12_NamesNets.j0 k a1 false)) else (virgatelaw12_NamesNets.j0 k a1 true)) else (virgatelaw12_NamesNets.j0 k a1 true))))))) = some r := h
  clear h
  replace H := Option.bind_eq_some_iff.mp H
  obtain ⟨⟨t14102, t14103⟩, A30, H⟩ := H
  replace H : ((virgateref12_Pool.f k a0_0 a0_1).bind fun bt14104 => ((names_OfPool.f k t14102).bind fun bt14106 => (if ((t14103 == 0) != bt14104.2) = true then (virgatelaw12_NamesNets.j0 k a1 true) else (if bt14104.2 = true then (if t14102.toList = bt14104.1.toList then (if (bt14106.2.2 != bt14104.2) = true then (virgatelaw12_NamesNets.j0 k a1 true) else (virgatelaw12_NamesNets.j0 k a1 (!(bt14106.1 == a0_0) || (!(bt14106.2.1 == a0_1))))) else (virgatelaw12_NamesNets.j0 k a1 true)) else (if t14103 = 1 then (if t14102.toList = bt14104.1.toList then (if (bt14106.2.2 != bt14104.2) = true then (virgatelaw12_NamesNets.j0 k a1 true) else (virgatelaw12_NamesNets.j0 k a1 false)) else (virgatelaw12_NamesNets.j0 k a1 true)) else (virgatelaw12_NamesNets.j0 k a1 true)))))) = some r := H
  have A3 := Aside0.mk A30
  clear A30
  replace H := Option.bind_eq_some_iff.mp H
  obtain ⟨⟨t14104, t14105⟩, A40, H⟩ := H
  replace H : ((names_OfPool.f k t14102).bind fun bt14106 => (if ((t14103 == 0) != t14105) = true then (virgatelaw12_NamesNets.j0 k a1 true) else (if t14105 = true then (if t14102.toList = t14104.toList then (if (bt14106.2.2 != t14105) = true then (virgatelaw12_NamesNets.j0 k a1 true) else (virgatelaw12_NamesNets.j0 k a1 (!(bt14106.1 == a0_0) || (!(bt14106.2.1 == a0_1))))) else (virgatelaw12_NamesNets.j0 k a1 true)) else (if t14103 = 1 then (if t14102.toList = t14104.toList then (if (bt14106.2.2 != t14105) = true then (virgatelaw12_NamesNets.j0 k a1 true) else (virgatelaw12_NamesNets.j0 k a1 false)) else (virgatelaw12_NamesNets.j0 k a1 true)) else (virgatelaw12_NamesNets.j0 k a1 true))))) = some r := H
  have A4 := Aside0.mk A40
  clear A40
  replace H := Option.bind_eq_some_iff.mp H
  obtain ⟨⟨t14106, t14107, t14108⟩, A50, H⟩ := H
  replace H : (if ((t14103 == 0) != t14105) = true then (virgatelaw12_NamesNets.j0 k a1 true) else (if t14105 = true then (if t14102.toList = t14104.toList then (if (t14108 != t14105) = true then (virgatelaw12_NamesNets.j0 k a1 true) else (virgatelaw12_NamesNets.j0 k a1 (!(t14106 == a0_0) || (!(t14107 == a0_1))))) else (virgatelaw12_NamesNets.j0 k a1 true)) else (if t14103 = 1 then (if t14102.toList = t14104.toList then (if (t14108 != t14105) = true then (virgatelaw12_NamesNets.j0 k a1 true) else (virgatelaw12_NamesNets.j0 k a1 false)) else (virgatelaw12_NamesNets.j0 k a1 true)) else (virgatelaw12_NamesNets.j0 k a1 true)))) = some r := H
  have A5 := Aside0.mk A50
  clear A50
  have HC6 := Aside0.mk H
  clear H
  go_enter Tryd.func14, Tryd.ntmps14
  go_upto_region 4 with (first | ((with_reducible refine gate_dst (N := 2) rfl ?_); refine box_event ?hg (N := 2) ?hd (cs := #[.int .u32 a0_0, .int .i64 a0_1]) (t := 44) ?hr ?_; (case hd => rfl); (case hg => rfl); (case hr => first | (go_simp; done) | (go_simp; rfl)); intro gb14101 hg w7 hbox hb; have n0_ := Aside0.mk (below_step (by repeat (first | (with_reducible first | exact HB.out | apply below_alloc | apply pw_below_drewN | apply below_drew1) | exact HB.out)) hb); have n1_ := Aside0.mk (hbox); have n2_ := Aside0.mk ((by rw [hg]; exact (below_size (by repeat (first | (with_reducible first | exact HB.out | apply below_alloc | apply pw_below_drewN | apply below_drew1) | exact HB.out))) : w.heap.size ≤ gb14101)); have n3_ := Aside0.mk ((by rw [hg]; exact (below_size (by repeat (first | (with_reducible first | exact HB.out | apply below_alloc | apply pw_below_drewN | apply below_drew1) | exact HB.out))) : w.heap.size ≤ gb14101)); clear HB; have HB := n0_; have BK14101 := n1_; have GW14101 := n2_; have GE14101 := n3_; clear n0_ n1_ n2_ n3_; clear hb hbox hg; have hcz8_0 : w7.cell? ⟨gb14101, 0, none⟩ = some (.int .u32 a0_0) := (blk_cell BK14101.out 0).trans rfl; have hcz8_1 : w7.cell? ⟨gb14101, 1, none⟩ = some (.int .i64 a0_1) := (blk_cell BK14101.out 1).trans rfl; have hfz8_0 := blk_frozen BK14101.out 0; have hfz8_1 := blk_frozen BK14101.out 1) | ((with_reducible refine gate_callee (f := 56) rfl ?_); refine goesL_ (some 19) rfl rfl Tryd.func56 (by kernel_rfl) rfl #[.agg #[.int .u32 a0_0, .int .i64 a0_1]] rfl (by (try simp only [List.map_toArray, List.map_cons, List.map_nil]); first | done | rfl | (simp only [List.length_drop, List.length_take]; rfl)) ?_; (with_reducible refine (names_Pool.calls k a0_0 a0_1 t14102 t14103 _ A3.out).mono ?_); rintro e w9 ⟨rfl, hb⟩; refine ⟨_, rfl, ?_⟩; have n0_ := Aside0.mk (blk_below (g := gb14101) (o := .cells #[.int .u32 a0_0, .int .i64 a0_1] 44 (0, 0)) (by (with_reducible repeat (first | refine blk_drewN ?_ _ | refine blk_drew ?_ | refine blk_alloc ?_ _)); exact BK14101.out) hb); have n1_ := Aside0.mk (below_step (by repeat (first | (with_reducible first | exact HB.out | apply below_alloc | apply pw_below_drewN | apply below_drew1 | refine below_set ?_ GE14101.out) | exact HB.out)) hb); clear BK14101; clear HB; have BK14101 := n0_; have HB := n1_; clear n0_ n1_; (try clear hb); (try clear hb2); (try clear hk); (try clear hi); have hcz10_0 : w9.cell? ⟨gb14101, 0, none⟩ = some (.int .u32 a0_0) := (blk_cell BK14101.out 0).trans rfl; have hcz10_1 : w9.cell? ⟨gb14101, 1, none⟩ = some (.int .i64 a0_1) := (blk_cell BK14101.out 1).trans rfl; have hfz10_0 := blk_frozen BK14101.out 0; have hfz10_1 := blk_frozen BK14101.out 1) | ((with_reducible refine gate_callee (f := 57) rfl ?_); refine goesL_ (some 24) rfl rfl Tryd.func57 (by kernel_rfl) rfl #[.agg #[.int .u32 a0_0, .int .i64 a0_1]] rfl (by (try simp only [List.map_toArray, List.map_cons, List.map_nil]); first | done | rfl | (simp only [List.length_drop, List.length_take]; rfl)) ?_; (with_reducible refine (virgateref12_Pool.calls k a0_0 a0_1 t14104 t14105 _ A4.out).mono ?_); rintro e w11 ⟨rfl, hb⟩; refine ⟨_, rfl, ?_⟩; have n0_ := Aside0.mk (blk_below (g := gb14101) (o := .cells #[.int .u32 a0_0, .int .i64 a0_1] 44 (0, 0)) (by (with_reducible repeat (first | refine blk_drewN ?_ _ | refine blk_drew ?_ | refine blk_alloc ?_ _)); exact BK14101.out) hb); have n1_ := Aside0.mk (below_step (by repeat (first | (with_reducible first | exact HB.out | apply below_alloc | apply pw_below_drewN | apply below_drew1 | refine below_set ?_ GE14101.out) | exact HB.out)) hb); clear BK14101; clear HB; have BK14101 := n0_; have HB := n1_; clear n0_ n1_; (try clear hb); (try clear hb2); (try clear hk); (try clear hi)) | ((with_reducible refine gate_callee (f := 58) rfl ?_); refine goesL_ (some 29) rfl rfl Tryd.func58 (by kernel_rfl) rfl #[.string t14102] rfl (by (try simp only [List.map_toArray, List.map_cons, List.map_nil]); first | done | rfl | (simp only [List.length_drop, List.length_take]; rfl)) ?_; (with_reducible refine (names_OfPool.calls k t14102 t14106 t14107 t14108 _ A5.out).mono ?_); rintro e w12 ⟨rfl, hb⟩; refine ⟨_, rfl, ?_⟩; have n0_ := Aside0.mk (blk_below (g := gb14101) (o := .cells #[.int .u32 a0_0, .int .i64 a0_1] 44 (0, 0)) (by (with_reducible repeat (first | refine blk_drewN ?_ _ | refine blk_drew ?_ | refine blk_alloc ?_ _)); exact BK14101.out) hb); have n1_ := Aside0.mk (below_step (by repeat (first | (with_reducible first | exact HB.out | apply below_alloc | apply pw_below_drewN | apply below_drew1 | refine below_set ?_ GE14101.out) | exact HB.out)) hb); clear BK14101; clear HB; have BK14101 := n0_; have HB := n1_; clear n0_ n1_; (try clear hb); (try clear hb2); (try clear hk); (try clear hi)) | ((with_reducible refine gate_dst (N := 9) rfl ?_); refine box_event ?hg (N := 9) ?hd (cs := #[.int .u32 0, .int .i64 0]) (t := 46) ?hr ?_; (case hd => rfl); (case hg => rfl); (case hr => first | (go_simp; done) | (go_simp; rfl)); intro gb14109 hg w13 hbox hb; have n0_ := Aside0.mk (blk_below (g := gb14101) (o := .cells #[.int .u32 a0_0, .int .i64 a0_1] 44 (0, 0)) (by (with_reducible repeat (first | refine blk_drewN ?_ _ | refine blk_drew ?_ | refine blk_alloc ?_ _)); exact BK14101.out) hb); have n1_ := Aside0.mk (below_step (by repeat (first | (with_reducible first | exact HB.out | apply below_alloc | apply pw_below_drewN | apply below_drew1 | refine below_set ?_ GE14101.out) | exact HB.out)) hb); have n2_ := Aside0.mk (hbox); have n3_ := Aside0.mk ((by rw [hg]; exact (below_size (by repeat (first | (with_reducible first | exact HB.out | apply below_alloc | apply pw_below_drewN | apply below_drew1 | refine below_set ?_ GE14101.out) | exact HB.out))) : w.heap.size ≤ gb14109)); have n4_ := Aside0.mk ((by rw [hg]; exact (below_size (by repeat (first | (with_reducible first | exact HB.out | apply below_alloc | apply pw_below_drewN | apply below_drew1 | refine below_set ?_ GE14101.out) | exact HB.out))) : w.heap.size ≤ gb14109)); have n5_ := Aside0.mk ((by rw [hg]; exact Nat.ne_of_lt (blk_lt (g := gb14101) (o := .cells #[.int .u32 a0_0, .int .i64 a0_1] 44 (0, 0)) (by (with_reducible repeat (first | refine blk_drewN ?_ _ | refine blk_drew ?_ | refine blk_alloc ?_ _)); exact BK14101.out)) : gb14101 ≠ gb14109)); have n6_ := Aside0.mk ((by rw [hg]; exact Nat.ne_of_gt (blk_lt (g := gb14101) (o := .cells #[.int .u32 a0_0, .int .i64 a0_1] 44 (0, 0)) (by (with_reducible repeat (first | refine blk_drewN ?_ _ | refine blk_drew ?_ | refine blk_alloc ?_ _)); exact BK14101.out)) : gb14109 ≠ gb14101)); clear BK14101; clear HB; have BK14101 := n0_; have HB := n1_; have BK14109 := n2_; have GW14109 := n3_; have GE14109 := n4_; have NB14101_14109 := n5_; have NB14109_14101 := n6_; clear n0_ n1_ n2_ n3_ n4_ n5_ n6_; clear hb hbox hg; have hnb14 := NB14109_14101.out; have hnc14 := NB14101_14109.out; have hcz15_0 : w13.cell? ⟨gb14109, 0, none⟩ = some (.int .u32 0) := (blk_cell BK14109.out 0).trans rfl; have hcz15_1 : w13.cell? ⟨gb14109, 1, none⟩ = some (.int .i64 0) := (blk_cell BK14109.out 1).trans rfl; have hfz15_0 := blk_frozen BK14109.out 0; have hfz15_1 := blk_frozen BK14109.out 1))
  (try simp only [Act.put, List.setIfInBounds_toArray, List.set_cons_zero, List.set_cons_succ])
  go_cut [65] (fun v65 wc => ∃ (kq : Nat) (x65_5 : Bool), v65 = .bool x65_5 ∧ Aside0 (virgatelaw12_NamesNets.j0 kq a1 x65_5 = some r) ∧ Aside0 (kq ≤ k) ∧ Aside0 (wc.heap[gb14101]? = some (.cells #[.int .u32 a0_0, .int .i64 a0_1] 44 (0, 0))) ∧ Aside0 (wc.heap[gb14109]? = some (.cells #[.int .u32 t14106, .int .i64 t14107] 46 (0, 0))) ∧ Aside0 (Below w.heap.size w wc))
  case first =>
    have H := HC6.out
    clear HC6
    by_cases c16 : ((t14103 == 0) != t14105) = true
    · rw [if_pos c16] at H
      have c16b0 : ((t14103 == 0) != t14105) = true := c16
      (try (have c16b1 : decide ((t14103 == 0) = t14105) = false := by simpa using c16))
      (try (have c16b2 : ((t14103 == 0) == t14105) = false := by simpa using c16))
      (try (have c16b3 : ¬ ((t14103 == 0) = t14105) := by simpa using c16))
      clear c16
      (first | rw [c16b0] | (simp only [i64_w, i32_w]; rw [c16b0]) | skip)
      have H' := Aside0.mk H
      clear H
      go_wp2
      go_meet
      case rel => exact ⟨_, (true), (by first | rfl | (simp; done) | (simp [*]; done)), H', ⟨by first | omega | exact Nat.le_refl _⟩, ⟨by (with_reducible repeat (first | refine blk_drewN ?_ _ | refine blk_drew ?_ | refine blk_alloc ?_ _)); refine blk_far ?_ NB14101_14109.out _; (with_reducible repeat (first | refine blk_drewN ?_ _ | refine blk_drew ?_ | refine blk_alloc ?_ _)); refine blk_far ?_ NB14101_14109.out _; (with_reducible repeat (first | refine blk_drewN ?_ _ | refine blk_drew ?_ | refine blk_alloc ?_ _)); exact BK14101.out⟩, ⟨by (with_reducible repeat (first | refine blk_drewN ?_ _ | refine blk_drew ?_ | refine blk_alloc ?_ _)); refine blk_put (cs := #[.int .u32 t14106, .int .i64 0]) ?_ 1 _ rfl; (with_reducible repeat (first | refine blk_drewN ?_ _ | refine blk_drew ?_ | refine blk_alloc ?_ _)); refine blk_put (cs := #[.int .u32 0, .int .i64 0]) ?_ 0 _ rfl; (with_reducible repeat (first | refine blk_drewN ?_ _ | refine blk_drew ?_ | refine blk_alloc ?_ _)); exact BK14109.out⟩, ⟨by repeat (first | (with_reducible first | exact HB.out | apply below_alloc | apply pw_below_drewN | apply below_drew1 | refine below_set ?_ GE14101.out | refine below_set ?_ GE14109.out) | exact HB.out)⟩⟩
    · rw [if_neg c16] at H
      have c16b0 : ((t14103 == 0) != t14105) = false := by simpa using c16
      (try (have c16b1 : decide ((t14103 == 0) = t14105) = true := by simpa using c16))
      (try (have c16b2 : ((t14103 == 0) == t14105) = true := by simpa using c16))
      clear c16
      (first | rw [c16b0] | (simp only [i64_w, i32_w]; rw [c16b0]) | skip)
      by_cases c17 : t14105 = true
      · subst c17
        have H1 : (if t14102.toList = t14104.toList then (if (t14108 != true) = true then (virgatelaw12_NamesNets.j0 k a1 true) else (virgatelaw12_NamesNets.j0 k a1 (!(t14106 == a0_0) || (!(t14107 == a0_1))))) else (virgatelaw12_NamesNets.j0 k a1 true)) = some r := by rw [if_pos rfl] at H; exact H
        clear H
        have H := H1
        clear H1
        by_cases c18 : t14102.toList = t14104.toList
        · rw [if_pos c18] at H
          have c18b0 : (t14102.toList == t14104.toList) = true := beq_iff_eq.mpr c18
          have c18b1 : (t14102.toList != t14104.toList) = false := bne_eq_false_iff_eq.mpr c18
          clear c18
          by_cases c19 : (t14108 != true) = true
          · rw [if_pos c19] at H
            have c19b0 : (t14108 != true) = true := c19
            (try (have c19b1 : decide (t14108 = true) = false := by simpa using c19))
            (try (have c19b2 : (t14108 == true) = false := by simpa using c19))
            (try (have c19b3 : ¬ (t14108 = true) := by simpa using c19))
            clear c19
            have H' := Aside0.mk H
            clear H
            go_wp2
            go_meet
            case rel => exact ⟨_, (true), (by first | rfl | (simp; done) | (simp [*]; done)), H', ⟨by first | omega | exact Nat.le_refl _⟩, ⟨by (with_reducible repeat (first | refine blk_drewN ?_ _ | refine blk_drew ?_ | refine blk_alloc ?_ _)); refine blk_far ?_ NB14101_14109.out _; (with_reducible repeat (first | refine blk_drewN ?_ _ | refine blk_drew ?_ | refine blk_alloc ?_ _)); refine blk_far ?_ NB14101_14109.out _; (with_reducible repeat (first | refine blk_drewN ?_ _ | refine blk_drew ?_ | refine blk_alloc ?_ _)); exact BK14101.out⟩, ⟨by (with_reducible repeat (first | refine blk_drewN ?_ _ | refine blk_drew ?_ | refine blk_alloc ?_ _)); refine blk_put (cs := #[.int .u32 t14106, .int .i64 0]) ?_ 1 _ rfl; (with_reducible repeat (first | refine blk_drewN ?_ _ | refine blk_drew ?_ | refine blk_alloc ?_ _)); refine blk_put (cs := #[.int .u32 0, .int .i64 0]) ?_ 0 _ rfl; (with_reducible repeat (first | refine blk_drewN ?_ _ | refine blk_drew ?_ | refine blk_alloc ?_ _)); exact BK14109.out⟩, ⟨by repeat (first | (with_reducible first | exact HB.out | apply below_alloc | apply pw_below_drewN | apply below_drew1 | refine below_set ?_ GE14101.out | refine below_set ?_ GE14109.out) | exact HB.out)⟩⟩
          · rw [if_neg c19] at H
            have c19b0 : (t14108 != true) = false := by simpa using c19
            (try (have c19b1 : decide (t14108 = true) = true := by simpa using c19))
            (try (have c19b2 : (t14108 == true) = true := by simpa using c19))
            clear c19
            have H' := Aside0.mk H
            clear H
            have hnb20 := NB14109_14101.out
            have hnc20 := NB14101_14109.out
            have hcz21_0 : w13.cell? ⟨gb14109, 0, none⟩ = some (.int .u32 0) := (blk_cell BK14109.out 0).trans rfl
            have hcz21_1 : w13.cell? ⟨gb14109, 1, none⟩ = some (.int .i64 0) := (blk_cell BK14109.out 1).trans rfl
            have hfz21_0 := blk_frozen BK14109.out 0
            have hfz21_1 := blk_frozen BK14109.out 1
            have hcz22_0 : w13.cell? ⟨gb14101, 0, none⟩ = some (.int .u32 a0_0) := (blk_cell BK14101.out 0).trans rfl
            have hcz22_1 : w13.cell? ⟨gb14101, 1, none⟩ = some (.int .i64 a0_1) := (blk_cell BK14101.out 1).trans rfl
            have hfz22_0 := blk_frozen BK14101.out 0
            have hfz22_1 := blk_frozen BK14101.out 1
            go_wp2
            go_meet
            case rel => exact ⟨_, ((!(t14106 == a0_0) || (!(t14107 == a0_1)))), (by first | rfl | (simp; done) | (simp [*]; done)), H', ⟨by first | omega | exact Nat.le_refl _⟩, ⟨by (with_reducible repeat (first | refine blk_drewN ?_ _ | refine blk_drew ?_ | refine blk_alloc ?_ _)); refine blk_far ?_ NB14101_14109.out _; (with_reducible repeat (first | refine blk_drewN ?_ _ | refine blk_drew ?_ | refine blk_alloc ?_ _)); refine blk_far ?_ NB14101_14109.out _; (with_reducible repeat (first | refine blk_drewN ?_ _ | refine blk_drew ?_ | refine blk_alloc ?_ _)); exact BK14101.out⟩, ⟨by (with_reducible repeat (first | refine blk_drewN ?_ _ | refine blk_drew ?_ | refine blk_alloc ?_ _)); refine blk_put (cs := #[.int .u32 t14106, .int .i64 0]) ?_ 1 _ rfl; (with_reducible repeat (first | refine blk_drewN ?_ _ | refine blk_drew ?_ | refine blk_alloc ?_ _)); refine blk_put (cs := #[.int .u32 0, .int .i64 0]) ?_ 0 _ rfl; (with_reducible repeat (first | refine blk_drewN ?_ _ | refine blk_drew ?_ | refine blk_alloc ?_ _)); exact BK14109.out⟩, ⟨by repeat (first | (with_reducible first | exact HB.out | apply below_alloc | apply pw_below_drewN | apply below_drew1 | refine below_set ?_ GE14101.out | refine below_set ?_ GE14109.out) | exact HB.out)⟩⟩
        · rw [if_neg c18] at H
          have c18b0 : (t14102.toList == t14104.toList) = false := beq_eq_false_iff_ne.mpr c18
          have c18b1 : (t14102.toList != t14104.toList) = true := bne_iff_ne.mpr c18
          have H' := Aside0.mk H
          clear H
          go_wp2
          go_meet
          case rel => exact ⟨_, (true), (by first | rfl | (simp; done) | (simp [*]; done)), H', ⟨by first | omega | exact Nat.le_refl _⟩, ⟨by (with_reducible repeat (first | refine blk_drewN ?_ _ | refine blk_drew ?_ | refine blk_alloc ?_ _)); refine blk_far ?_ NB14101_14109.out _; (with_reducible repeat (first | refine blk_drewN ?_ _ | refine blk_drew ?_ | refine blk_alloc ?_ _)); refine blk_far ?_ NB14101_14109.out _; (with_reducible repeat (first | refine blk_drewN ?_ _ | refine blk_drew ?_ | refine blk_alloc ?_ _)); exact BK14101.out⟩, ⟨by (with_reducible repeat (first | refine blk_drewN ?_ _ | refine blk_drew ?_ | refine blk_alloc ?_ _)); refine blk_put (cs := #[.int .u32 t14106, .int .i64 0]) ?_ 1 _ rfl; (with_reducible repeat (first | refine blk_drewN ?_ _ | refine blk_drew ?_ | refine blk_alloc ?_ _)); refine blk_put (cs := #[.int .u32 0, .int .i64 0]) ?_ 0 _ rfl; (with_reducible repeat (first | refine blk_drewN ?_ _ | refine blk_drew ?_ | refine blk_alloc ?_ _)); exact BK14109.out⟩, ⟨by repeat (first | (with_reducible first | exact HB.out | apply below_alloc | apply pw_below_drewN | apply below_drew1 | refine below_set ?_ GE14101.out | refine below_set ?_ GE14109.out) | exact HB.out)⟩⟩
      · replace c17 := Bool.eq_false_iff.mpr c17
        subst c17
        have H1 : (if t14103 = 1 then (if t14102.toList = t14104.toList then (if (t14108 != false) = true then (virgatelaw12_NamesNets.j0 k a1 true) else (virgatelaw12_NamesNets.j0 k a1 false)) else (virgatelaw12_NamesNets.j0 k a1 true)) else (virgatelaw12_NamesNets.j0 k a1 true)) = some r := by rw [if_neg (show ¬ (false = true) by decide)] at H; exact H
        clear H
        have H := H1
        clear H1
        by_cases c23 : t14103 = 1
        · rw [if_pos c23] at H
          have c23b0 : (t14103 == 1) = true := beq_iff_eq.mpr c23
          have c23b1 : (t14103 != 1) = false := bne_eq_false_iff_eq.mpr c23
          clear c23
          by_cases c24 : t14102.toList = t14104.toList
          · rw [if_pos c24] at H
            have c24b0 : (t14102.toList == t14104.toList) = true := beq_iff_eq.mpr c24
            have c24b1 : (t14102.toList != t14104.toList) = false := bne_eq_false_iff_eq.mpr c24
            clear c24
            by_cases c25 : (t14108 != false) = true
            · rw [if_pos c25] at H
              have c25b0 : (t14108 != false) = true := c25
              (try (have c25b1 : decide (t14108 = false) = false := by simpa using c25))
              (try (have c25b2 : (t14108 == false) = false := by simpa using c25))
              (try (have c25b3 : ¬ (t14108 = false) := by simpa using c25))
              clear c25
              have H' := Aside0.mk H
              clear H
              go_wp2
              go_meet
              case rel => exact ⟨_, (true), (by first | rfl | (simp; done) | (simp [*]; done)), H', ⟨by first | omega | exact Nat.le_refl _⟩, ⟨by (with_reducible repeat (first | refine blk_drewN ?_ _ | refine blk_drew ?_ | refine blk_alloc ?_ _)); refine blk_far ?_ NB14101_14109.out _; (with_reducible repeat (first | refine blk_drewN ?_ _ | refine blk_drew ?_ | refine blk_alloc ?_ _)); refine blk_far ?_ NB14101_14109.out _; (with_reducible repeat (first | refine blk_drewN ?_ _ | refine blk_drew ?_ | refine blk_alloc ?_ _)); exact BK14101.out⟩, ⟨by (with_reducible repeat (first | refine blk_drewN ?_ _ | refine blk_drew ?_ | refine blk_alloc ?_ _)); refine blk_put (cs := #[.int .u32 t14106, .int .i64 0]) ?_ 1 _ rfl; (with_reducible repeat (first | refine blk_drewN ?_ _ | refine blk_drew ?_ | refine blk_alloc ?_ _)); refine blk_put (cs := #[.int .u32 0, .int .i64 0]) ?_ 0 _ rfl; (with_reducible repeat (first | refine blk_drewN ?_ _ | refine blk_drew ?_ | refine blk_alloc ?_ _)); exact BK14109.out⟩, ⟨by repeat (first | (with_reducible first | exact HB.out | apply below_alloc | apply pw_below_drewN | apply below_drew1 | refine below_set ?_ GE14101.out | refine below_set ?_ GE14109.out) | exact HB.out)⟩⟩
            · rw [if_neg c25] at H
              have c25b0 : (t14108 != false) = false := by simpa using c25
              (try (have c25b1 : decide (t14108 = false) = true := by simpa using c25))
              (try (have c25b2 : (t14108 == false) = true := by simpa using c25))
              clear c25
              have H' := Aside0.mk H
              clear H
              go_wp2
              go_meet
              case rel => exact ⟨_, (false), (by first | rfl | (simp; done) | (simp [*]; done)), H', ⟨by first | omega | exact Nat.le_refl _⟩, ⟨by (with_reducible repeat (first | refine blk_drewN ?_ _ | refine blk_drew ?_ | refine blk_alloc ?_ _)); refine blk_far ?_ NB14101_14109.out _; (with_reducible repeat (first | refine blk_drewN ?_ _ | refine blk_drew ?_ | refine blk_alloc ?_ _)); refine blk_far ?_ NB14101_14109.out _; (with_reducible repeat (first | refine blk_drewN ?_ _ | refine blk_drew ?_ | refine blk_alloc ?_ _)); exact BK14101.out⟩, ⟨by (with_reducible repeat (first | refine blk_drewN ?_ _ | refine blk_drew ?_ | refine blk_alloc ?_ _)); refine blk_put (cs := #[.int .u32 t14106, .int .i64 0]) ?_ 1 _ rfl; (with_reducible repeat (first | refine blk_drewN ?_ _ | refine blk_drew ?_ | refine blk_alloc ?_ _)); refine blk_put (cs := #[.int .u32 0, .int .i64 0]) ?_ 0 _ rfl; (with_reducible repeat (first | refine blk_drewN ?_ _ | refine blk_drew ?_ | refine blk_alloc ?_ _)); exact BK14109.out⟩, ⟨by repeat (first | (with_reducible first | exact HB.out | apply below_alloc | apply pw_below_drewN | apply below_drew1 | refine below_set ?_ GE14101.out | refine below_set ?_ GE14109.out) | exact HB.out)⟩⟩
          · rw [if_neg c24] at H
            have c24b0 : (t14102.toList == t14104.toList) = false := beq_eq_false_iff_ne.mpr c24
            have c24b1 : (t14102.toList != t14104.toList) = true := bne_iff_ne.mpr c24
            have H' := Aside0.mk H
            clear H
            go_wp2
            go_meet
            case rel => exact ⟨_, (true), (by first | rfl | (simp; done) | (simp [*]; done)), H', ⟨by first | omega | exact Nat.le_refl _⟩, ⟨by (with_reducible repeat (first | refine blk_drewN ?_ _ | refine blk_drew ?_ | refine blk_alloc ?_ _)); refine blk_far ?_ NB14101_14109.out _; (with_reducible repeat (first | refine blk_drewN ?_ _ | refine blk_drew ?_ | refine blk_alloc ?_ _)); refine blk_far ?_ NB14101_14109.out _; (with_reducible repeat (first | refine blk_drewN ?_ _ | refine blk_drew ?_ | refine blk_alloc ?_ _)); exact BK14101.out⟩, ⟨by (with_reducible repeat (first | refine blk_drewN ?_ _ | refine blk_drew ?_ | refine blk_alloc ?_ _)); refine blk_put (cs := #[.int .u32 t14106, .int .i64 0]) ?_ 1 _ rfl; (with_reducible repeat (first | refine blk_drewN ?_ _ | refine blk_drew ?_ | refine blk_alloc ?_ _)); refine blk_put (cs := #[.int .u32 0, .int .i64 0]) ?_ 0 _ rfl; (with_reducible repeat (first | refine blk_drewN ?_ _ | refine blk_drew ?_ | refine blk_alloc ?_ _)); exact BK14109.out⟩, ⟨by repeat (first | (with_reducible first | exact HB.out | apply below_alloc | apply pw_below_drewN | apply below_drew1 | refine below_set ?_ GE14101.out | refine below_set ?_ GE14109.out) | exact HB.out)⟩⟩
        · rw [if_neg c23] at H
          have c23b0 : (t14103 == 1) = false := beq_eq_false_iff_ne.mpr c23
          have c23b1 : (t14103 != 1) = true := bne_iff_ne.mpr c23
          have H' := Aside0.mk H
          clear H
          go_wp2
          go_meet
          case rel => exact ⟨_, (true), (by first | rfl | (simp; done) | (simp [*]; done)), H', ⟨by first | omega | exact Nat.le_refl _⟩, ⟨by (with_reducible repeat (first | refine blk_drewN ?_ _ | refine blk_drew ?_ | refine blk_alloc ?_ _)); refine blk_far ?_ NB14101_14109.out _; (with_reducible repeat (first | refine blk_drewN ?_ _ | refine blk_drew ?_ | refine blk_alloc ?_ _)); refine blk_far ?_ NB14101_14109.out _; (with_reducible repeat (first | refine blk_drewN ?_ _ | refine blk_drew ?_ | refine blk_alloc ?_ _)); exact BK14101.out⟩, ⟨by (with_reducible repeat (first | refine blk_drewN ?_ _ | refine blk_drew ?_ | refine blk_alloc ?_ _)); refine blk_put (cs := #[.int .u32 t14106, .int .i64 0]) ?_ 1 _ rfl; (with_reducible repeat (first | refine blk_drewN ?_ _ | refine blk_drew ?_ | refine blk_alloc ?_ _)); refine blk_put (cs := #[.int .u32 0, .int .i64 0]) ?_ 0 _ rfl; (with_reducible repeat (first | refine blk_drewN ?_ _ | refine blk_drew ?_ | refine blk_alloc ?_ _)); exact BK14109.out⟩, ⟨by repeat (first | (with_reducible first | exact HB.out | apply below_alloc | apply pw_below_drewN | apply below_drew1 | refine below_set ?_ GE14101.out | refine below_set ?_ GE14109.out) | exact HB.out)⟩⟩
  case rest =>
    clear HC6
    try clear c1
    try clear c2
    try clear p2
    try clear c5
    try clear c14
    try clear c16
    try clear c16b0
    try clear c16b1
    try clear c16b2
    try clear c17
    try clear c18
    try clear c18b0
    try clear c18b1
    try clear c19
    try clear c19b0
    try clear c19b1
    try clear c19b2
    try clear c20
    try clear c23
    try clear c23b0
    try clear c23b1
    try clear c24
    try clear c24b0
    try clear c24b1
    try clear c25
    try clear c25b0
    try clear c25b1
    try clear c25b2
    try clear hcz10_0
    try clear hcz10_1
    try clear hcz15_0
    try clear hcz15_1
    try clear hcz21_0
    try clear hcz21_1
    try clear hcz22_0
    try clear hcz22_1
    try clear hcz8_0
    try clear hcz8_1
    try clear hfz10_0
    try clear hfz10_1
    try clear hfz15_0
    try clear hfz15_1
    try clear hfz21_0
    try clear hfz21_1
    try clear hfz22_0
    try clear hfz22_1
    try clear hfz8_0
    try clear hfz8_1
    obtain ⟨kq, x65_5, rfl, HA, HJ5, BK14101, BK14109, HB⟩ := hcut
    cases kq with
    | zero => exact absurd HA.out (by simp [virgatelaw12_NamesNets.j0])
    | succ kj5 =>
      have H := HA.out
      clear HA
      simp only [virgatelaw12_NamesNets.j0] at H
      by_cases c26 : x65_5 = true
      · subst c26
        have H1 : (some false) = some r := by rw [if_pos rfl] at H; exact H
        clear H
        have H := H1
        clear H1
        obtain rfl := Option.some.inj H
        go_wp2
        go_ret
        exact ⟨by first | rfl | (simp [errW_none, errW_some] <;> rfl) | (simp [*, errW_none, errW_some] <;> rfl), by repeat (first | (with_reducible first | exact HB.out | apply below_alloc | apply pw_below_drewN | apply below_drew1 | refine below_set ?_ GE14101.out | refine below_set ?_ GE14109.out) | exact HB.out)⟩
      · replace c26 := Bool.eq_false_iff.mpr c26
        subst c26
        have H1 : ((names_Block.f kj5 a1).bind fun t14110 => ((names_OfBlock.f kj5 t14110).bind fun bt14111 => ((names_Block.f kj5 a1).bind fun t14113 => ((virgateref12_Block.f kj5 a1).bind fun t14114 => (if t14113.toList = t14114.toList then (if bt14111.2 = true then ((virgateref12_First.f a1).bind fun t14115 => (if bt14111.1 = t14115 then ((virgatelaw12_awake.f kj5).bind fun t14116 => (some t14116)) else (some false))) else (some false)) else (some false)))))) = some r := by rw [if_neg (show ¬ (false = true) by decide)] at H; exact H
        clear H
        have H := H1
        clear H1
        replace H := Option.bind_eq_some_iff.mp H
        obtain ⟨t14110, A270, H⟩ := H
        replace H : ((names_OfBlock.f kj5 t14110).bind fun bt14111 => ((names_Block.f kj5 a1).bind fun t14113 => ((virgateref12_Block.f kj5 a1).bind fun t14114 => (if t14113.toList = t14114.toList then (if bt14111.2 = true then ((virgateref12_First.f a1).bind fun t14115 => (if bt14111.1 = t14115 then ((virgatelaw12_awake.f kj5).bind fun t14116 => (some t14116)) else (some false))) else (some false)) else (some false))))) = some r := H
        have A27 := Aside0.mk A270
        clear A270
        replace H := Option.bind_eq_some_iff.mp H
        obtain ⟨⟨t14111, t14112⟩, A280, H⟩ := H
        replace H : ((names_Block.f kj5 a1).bind fun t14113 => ((virgateref12_Block.f kj5 a1).bind fun t14114 => (if t14113.toList = t14114.toList then (if t14112 = true then ((virgateref12_First.f a1).bind fun t14115 => (if t14111 = t14115 then ((virgatelaw12_awake.f kj5).bind fun t14116 => (some t14116)) else (some false))) else (some false)) else (some false)))) = some r := H
        have A28 := Aside0.mk A280
        clear A280
        replace H := Option.bind_eq_some_iff.mp H
        obtain ⟨t14113, A290, H⟩ := H
        replace H : ((virgateref12_Block.f kj5 a1).bind fun t14114 => (if t14113.toList = t14114.toList then (if t14112 = true then ((virgateref12_First.f a1).bind fun t14115 => (if t14111 = t14115 then ((virgatelaw12_awake.f kj5).bind fun t14116 => (some t14116)) else (some false))) else (some false)) else (some false))) = some r := H
        have A29 := Aside0.mk A290
        clear A290
        replace H := Option.bind_eq_some_iff.mp H
        obtain ⟨t14114, A300, H⟩ := H
        replace H : (if t14113.toList = t14114.toList then (if t14112 = true then ((virgateref12_First.f a1).bind fun t14115 => (if t14111 = t14115 then ((virgatelaw12_awake.f kj5).bind fun t14116 => (some t14116)) else (some false))) else (some false)) else (some false)) = some r := H
        have A30 := Aside0.mk A300
        clear A300
        by_cases c31 : t14113.toList = t14114.toList
        · rw [if_pos c31] at H
          have c31b0 : (t14113.toList == t14114.toList) = true := beq_iff_eq.mpr c31
          have c31b1 : (t14113.toList != t14114.toList) = false := bne_eq_false_iff_eq.mpr c31
          clear c31
          by_cases c32 : t14112 = true
          · subst c32
            have H1 : ((virgateref12_First.f a1).bind fun t14115 => (if t14111 = t14115 then ((virgatelaw12_awake.f kj5).bind fun t14116 => (some t14116)) else (some false))) = some r := by rw [if_pos rfl] at H; exact H
            clear H
            have H := H1
            clear H1
            replace H := Option.bind_eq_some_iff.mp H
            obtain ⟨t14115, A330, H⟩ := H
            replace H : (if t14111 = t14115 then ((virgatelaw12_awake.f kj5).bind fun t14116 => (some t14116)) else (some false)) = some r := H
            have A33 := Aside0.mk A330
            clear A330
            by_cases c34 : t14111 = t14115
            · rw [if_pos c34] at H
              have c34b0 : (t14111 == t14115) = true := beq_iff_eq.mpr c34
              have c34b1 : (t14111 != t14115) = false := bne_eq_false_iff_eq.mpr c34
              clear c34
              replace H := Option.bind_eq_some_iff.mp H
              obtain ⟨t14116, A350, H⟩ := H
              replace H : (some t14116) = some r := H
              have A35 := Aside0.mk A350
              clear A350
              obtain rfl := Option.some.inj H
              go_wp2_with (first | ((with_reducible refine gate_callee (f := 60) rfl ?_); refine goesL_ (some 68) rfl rfl Tryd.func60 (by kernel_rfl) rfl #[.int .u32 a1] rfl (by (try simp only [List.map_toArray, List.map_cons, List.map_nil]); first | done | rfl | (simp only [List.length_drop, List.length_take]; rfl)) ?_; (with_reducible refine (names_Block.calls kj5 a1 t14110 _ A27.out).mono ?_); rintro e w36 ⟨rfl, hb⟩; refine ⟨_, rfl, ?_⟩; have n0_ := Aside0.mk (blk_below (g := gb14101) (o := .cells #[.int .u32 a0_0, .int .i64 a0_1] 44 (0, 0)) (by (with_reducible repeat (first | refine blk_drewN ?_ _ | refine blk_drew ?_ | refine blk_alloc ?_ _)); exact BK14101.out) hb); have n1_ := Aside0.mk (blk_below (g := gb14109) (o := .cells #[.int .u32 t14106, .int .i64 t14107] 46 (0, 0)) (by (with_reducible repeat (first | refine blk_drewN ?_ _ | refine blk_drew ?_ | refine blk_alloc ?_ _)); exact BK14109.out) hb); have n2_ := Aside0.mk (below_step (by repeat (first | (with_reducible first | exact HB.out | apply below_alloc | apply pw_below_drewN | apply below_drew1 | refine below_set ?_ GE14101.out | refine below_set ?_ GE14109.out) | exact HB.out)) hb); clear BK14101; clear BK14109; clear HB; have BK14101 := n0_; have BK14109 := n1_; have HB := n2_; clear n0_ n1_ n2_; (try clear hb); (try clear hb2); (try clear hk); (try clear hi)) | ((with_reducible refine gate_callee (f := 59) rfl ?_); refine goesL_ (some 69) rfl rfl Tryd.func59 (by kernel_rfl) rfl #[.string t14110] rfl (by (try simp only [List.map_toArray, List.map_cons, List.map_nil]); first | done | rfl | (simp only [List.length_drop, List.length_take]; rfl)) ?_; (with_reducible refine (names_OfBlock.calls kj5 t14110 t14111 true _ A28.out).mono ?_); rintro e w37 ⟨rfl, hb⟩; refine ⟨_, rfl, ?_⟩; have n0_ := Aside0.mk (blk_below (g := gb14101) (o := .cells #[.int .u32 a0_0, .int .i64 a0_1] 44 (0, 0)) (by (with_reducible repeat (first | refine blk_drewN ?_ _ | refine blk_drew ?_ | refine blk_alloc ?_ _)); exact BK14101.out) hb); have n1_ := Aside0.mk (blk_below (g := gb14109) (o := .cells #[.int .u32 t14106, .int .i64 t14107] 46 (0, 0)) (by (with_reducible repeat (first | refine blk_drewN ?_ _ | refine blk_drew ?_ | refine blk_alloc ?_ _)); exact BK14109.out) hb); have n2_ := Aside0.mk (below_step (by repeat (first | (with_reducible first | exact HB.out | apply below_alloc | apply pw_below_drewN | apply below_drew1 | refine below_set ?_ GE14101.out | refine below_set ?_ GE14109.out) | exact HB.out)) hb); clear BK14101; clear BK14109; clear HB; have BK14101 := n0_; have BK14109 := n1_; have HB := n2_; clear n0_ n1_ n2_; (try clear hb); (try clear hb2); (try clear hk); (try clear hi)) | ((with_reducible refine gate_callee (f := 60) rfl ?_); refine goesL_ (some 73) rfl rfl Tryd.func60 (by kernel_rfl) rfl #[.int .u32 a1] rfl (by (try simp only [List.map_toArray, List.map_cons, List.map_nil]); first | done | rfl | (simp only [List.length_drop, List.length_take]; rfl)) ?_; (with_reducible refine (names_Block.calls kj5 a1 t14113 _ A29.out).mono ?_); rintro e w38 ⟨rfl, hb⟩; refine ⟨_, rfl, ?_⟩; have n0_ := Aside0.mk (blk_below (g := gb14101) (o := .cells #[.int .u32 a0_0, .int .i64 a0_1] 44 (0, 0)) (by (with_reducible repeat (first | refine blk_drewN ?_ _ | refine blk_drew ?_ | refine blk_alloc ?_ _)); exact BK14101.out) hb); have n1_ := Aside0.mk (blk_below (g := gb14109) (o := .cells #[.int .u32 t14106, .int .i64 t14107] 46 (0, 0)) (by (with_reducible repeat (first | refine blk_drewN ?_ _ | refine blk_drew ?_ | refine blk_alloc ?_ _)); exact BK14109.out) hb); have n2_ := Aside0.mk (below_step (by repeat (first | (with_reducible first | exact HB.out | apply below_alloc | apply pw_below_drewN | apply below_drew1 | refine below_set ?_ GE14101.out | refine below_set ?_ GE14109.out) | exact HB.out)) hb); clear BK14101; clear BK14109; clear HB; have BK14101 := n0_; have BK14109 := n1_; have HB := n2_; clear n0_ n1_ n2_; (try clear hb); (try clear hb2); (try clear hk); (try clear hi)) | ((with_reducible refine gate_callee (f := 61) rfl ?_); refine goesL_ (some 75) rfl rfl Tryd.func61 (by kernel_rfl) rfl #[.int .u32 a1] rfl (by (try simp only [List.map_toArray, List.map_cons, List.map_nil]); first | done | rfl | (simp only [List.length_drop, List.length_take]; rfl)) ?_; (with_reducible refine (virgateref12_Block.calls kj5 a1 t14114 _ A30.out).mono ?_); rintro e w39 ⟨rfl, hb⟩; refine ⟨_, rfl, ?_⟩; have n0_ := Aside0.mk (blk_below (g := gb14101) (o := .cells #[.int .u32 a0_0, .int .i64 a0_1] 44 (0, 0)) (by (with_reducible repeat (first | refine blk_drewN ?_ _ | refine blk_drew ?_ | refine blk_alloc ?_ _)); exact BK14101.out) hb); have n1_ := Aside0.mk (blk_below (g := gb14109) (o := .cells #[.int .u32 t14106, .int .i64 t14107] 46 (0, 0)) (by (with_reducible repeat (first | refine blk_drewN ?_ _ | refine blk_drew ?_ | refine blk_alloc ?_ _)); exact BK14109.out) hb); have n2_ := Aside0.mk (below_step (by repeat (first | (with_reducible first | exact HB.out | apply below_alloc | apply pw_below_drewN | apply below_drew1 | refine below_set ?_ GE14101.out | refine below_set ?_ GE14109.out) | exact HB.out)) hb); clear BK14101; clear BK14109; clear HB; have BK14101 := n0_; have BK14109 := n1_; have HB := n2_; clear n0_ n1_ n2_; (try clear hb); (try clear hb2); (try clear hk); (try clear hi)) | (go_at_call 62; (with_reducible refine (virgateref12_First.calls a1 t14115 _ A33.out).mono ?_); rintro e w' ⟨rfl, ⟨nd, rfl⟩⟩) | (go_at_call 63; (with_reducible refine (virgatelaw12_awake.calls kj5  t14116 _ A35.out).mono ?_); rintro e w40 ⟨rfl, hb⟩; have n0_ := Aside0.mk (blk_below (g := gb14101) (o := .cells #[.int .u32 a0_0, .int .i64 a0_1] 44 (0, 0)) (by (with_reducible repeat (first | refine blk_drewN ?_ _ | refine blk_drew ?_ | refine blk_alloc ?_ _)); exact BK14101.out) hb); have n1_ := Aside0.mk (blk_below (g := gb14109) (o := .cells #[.int .u32 t14106, .int .i64 t14107] 46 (0, 0)) (by (with_reducible repeat (first | refine blk_drewN ?_ _ | refine blk_drew ?_ | refine blk_alloc ?_ _)); exact BK14109.out) hb); have n2_ := Aside0.mk (below_step (by repeat (first | (with_reducible first | exact HB.out | apply below_alloc | apply pw_below_drewN | apply below_drew1 | refine below_set ?_ GE14101.out | refine below_set ?_ GE14109.out) | exact HB.out)) hb); clear BK14101; clear BK14109; clear HB; have BK14101 := n0_; have BK14109 := n1_; have HB := n2_; clear n0_ n1_ n2_; (try clear hb); (try clear hb2); (try clear hk); (try clear hi)))
              go_ret
              exact ⟨by first | rfl | (simp [errW_none, errW_some] <;> rfl) | (simp [*, errW_none, errW_some] <;> rfl), by repeat (first | (with_reducible first | exact HB.out | apply below_alloc | apply pw_below_drewN | apply below_drew1 | refine below_set ?_ GE14101.out | refine below_set ?_ GE14109.out) | exact HB.out)⟩
            · rw [if_neg c34] at H
              have c34b0 : (t14111 == t14115) = false := beq_eq_false_iff_ne.mpr c34
              have c34b1 : (t14111 != t14115) = true := bne_iff_ne.mpr c34
              obtain rfl := Option.some.inj H
              go_wp2_with (first | ((with_reducible refine gate_callee (f := 60) rfl ?_); refine goesL_ (some 68) rfl rfl Tryd.func60 (by kernel_rfl) rfl #[.int .u32 a1] rfl (by (try simp only [List.map_toArray, List.map_cons, List.map_nil]); first | done | rfl | (simp only [List.length_drop, List.length_take]; rfl)) ?_; (with_reducible refine (names_Block.calls kj5 a1 t14110 _ A27.out).mono ?_); rintro e w41 ⟨rfl, hb⟩; refine ⟨_, rfl, ?_⟩; have n0_ := Aside0.mk (blk_below (g := gb14101) (o := .cells #[.int .u32 a0_0, .int .i64 a0_1] 44 (0, 0)) (by (with_reducible repeat (first | refine blk_drewN ?_ _ | refine blk_drew ?_ | refine blk_alloc ?_ _)); exact BK14101.out) hb); have n1_ := Aside0.mk (blk_below (g := gb14109) (o := .cells #[.int .u32 t14106, .int .i64 t14107] 46 (0, 0)) (by (with_reducible repeat (first | refine blk_drewN ?_ _ | refine blk_drew ?_ | refine blk_alloc ?_ _)); exact BK14109.out) hb); have n2_ := Aside0.mk (below_step (by repeat (first | (with_reducible first | exact HB.out | apply below_alloc | apply pw_below_drewN | apply below_drew1 | refine below_set ?_ GE14101.out | refine below_set ?_ GE14109.out) | exact HB.out)) hb); clear BK14101; clear BK14109; clear HB; have BK14101 := n0_; have BK14109 := n1_; have HB := n2_; clear n0_ n1_ n2_; (try clear hb); (try clear hb2); (try clear hk); (try clear hi)) | ((with_reducible refine gate_callee (f := 59) rfl ?_); refine goesL_ (some 69) rfl rfl Tryd.func59 (by kernel_rfl) rfl #[.string t14110] rfl (by (try simp only [List.map_toArray, List.map_cons, List.map_nil]); first | done | rfl | (simp only [List.length_drop, List.length_take]; rfl)) ?_; (with_reducible refine (names_OfBlock.calls kj5 t14110 t14111 true _ A28.out).mono ?_); rintro e w42 ⟨rfl, hb⟩; refine ⟨_, rfl, ?_⟩; have n0_ := Aside0.mk (blk_below (g := gb14101) (o := .cells #[.int .u32 a0_0, .int .i64 a0_1] 44 (0, 0)) (by (with_reducible repeat (first | refine blk_drewN ?_ _ | refine blk_drew ?_ | refine blk_alloc ?_ _)); exact BK14101.out) hb); have n1_ := Aside0.mk (blk_below (g := gb14109) (o := .cells #[.int .u32 t14106, .int .i64 t14107] 46 (0, 0)) (by (with_reducible repeat (first | refine blk_drewN ?_ _ | refine blk_drew ?_ | refine blk_alloc ?_ _)); exact BK14109.out) hb); have n2_ := Aside0.mk (below_step (by repeat (first | (with_reducible first | exact HB.out | apply below_alloc | apply pw_below_drewN | apply below_drew1 | refine below_set ?_ GE14101.out | refine below_set ?_ GE14109.out) | exact HB.out)) hb); clear BK14101; clear BK14109; clear HB; have BK14101 := n0_; have BK14109 := n1_; have HB := n2_; clear n0_ n1_ n2_; (try clear hb); (try clear hb2); (try clear hk); (try clear hi)) | ((with_reducible refine gate_callee (f := 60) rfl ?_); refine goesL_ (some 73) rfl rfl Tryd.func60 (by kernel_rfl) rfl #[.int .u32 a1] rfl (by (try simp only [List.map_toArray, List.map_cons, List.map_nil]); first | done | rfl | (simp only [List.length_drop, List.length_take]; rfl)) ?_; (with_reducible refine (names_Block.calls kj5 a1 t14113 _ A29.out).mono ?_); rintro e w43 ⟨rfl, hb⟩; refine ⟨_, rfl, ?_⟩; have n0_ := Aside0.mk (blk_below (g := gb14101) (o := .cells #[.int .u32 a0_0, .int .i64 a0_1] 44 (0, 0)) (by (with_reducible repeat (first | refine blk_drewN ?_ _ | refine blk_drew ?_ | refine blk_alloc ?_ _)); exact BK14101.out) hb); have n1_ := Aside0.mk (blk_below (g := gb14109) (o := .cells #[.int .u32 t14106, .int .i64 t14107] 46 (0, 0)) (by (with_reducible repeat (first | refine blk_drewN ?_ _ | refine blk_drew ?_ | refine blk_alloc ?_ _)); exact BK14109.out) hb); have n2_ := Aside0.mk (below_step (by repeat (first | (with_reducible first | exact HB.out | apply below_alloc | apply pw_below_drewN | apply below_drew1 | refine below_set ?_ GE14101.out | refine below_set ?_ GE14109.out) | exact HB.out)) hb); clear BK14101; clear BK14109; clear HB; have BK14101 := n0_; have BK14109 := n1_; have HB := n2_; clear n0_ n1_ n2_; (try clear hb); (try clear hb2); (try clear hk); (try clear hi)) | ((with_reducible refine gate_callee (f := 61) rfl ?_); refine goesL_ (some 75) rfl rfl Tryd.func61 (by kernel_rfl) rfl #[.int .u32 a1] rfl (by (try simp only [List.map_toArray, List.map_cons, List.map_nil]); first | done | rfl | (simp only [List.length_drop, List.length_take]; rfl)) ?_; (with_reducible refine (virgateref12_Block.calls kj5 a1 t14114 _ A30.out).mono ?_); rintro e w44 ⟨rfl, hb⟩; refine ⟨_, rfl, ?_⟩; have n0_ := Aside0.mk (blk_below (g := gb14101) (o := .cells #[.int .u32 a0_0, .int .i64 a0_1] 44 (0, 0)) (by (with_reducible repeat (first | refine blk_drewN ?_ _ | refine blk_drew ?_ | refine blk_alloc ?_ _)); exact BK14101.out) hb); have n1_ := Aside0.mk (blk_below (g := gb14109) (o := .cells #[.int .u32 t14106, .int .i64 t14107] 46 (0, 0)) (by (with_reducible repeat (first | refine blk_drewN ?_ _ | refine blk_drew ?_ | refine blk_alloc ?_ _)); exact BK14109.out) hb); have n2_ := Aside0.mk (below_step (by repeat (first | (with_reducible first | exact HB.out | apply below_alloc | apply pw_below_drewN | apply below_drew1 | refine below_set ?_ GE14101.out | refine below_set ?_ GE14109.out) | exact HB.out)) hb); clear BK14101; clear BK14109; clear HB; have BK14101 := n0_; have BK14109 := n1_; have HB := n2_; clear n0_ n1_ n2_; (try clear hb); (try clear hb2); (try clear hk); (try clear hi)) | (go_at_call 62; (with_reducible refine (virgateref12_First.calls a1 t14115 _ A33.out).mono ?_); rintro e w' ⟨rfl, ⟨nd, rfl⟩⟩))
              go_ret
              exact ⟨by first | rfl | (simp [errW_none, errW_some] <;> rfl) | (simp [*, errW_none, errW_some] <;> rfl), by repeat (first | (with_reducible first | exact HB.out | apply below_alloc | apply pw_below_drewN | apply below_drew1 | refine below_set ?_ GE14101.out | refine below_set ?_ GE14109.out) | exact HB.out)⟩
          · replace c32 := Bool.eq_false_iff.mpr c32
            subst c32
            have H1 : (some false) = some r := by rw [if_neg (show ¬ (false = true) by decide)] at H; exact H
            clear H
            have H := H1
            clear H1
            obtain rfl := Option.some.inj H
            go_wp2_with (first | ((with_reducible refine gate_callee (f := 60) rfl ?_); refine goesL_ (some 68) rfl rfl Tryd.func60 (by kernel_rfl) rfl #[.int .u32 a1] rfl (by (try simp only [List.map_toArray, List.map_cons, List.map_nil]); first | done | rfl | (simp only [List.length_drop, List.length_take]; rfl)) ?_; (with_reducible refine (names_Block.calls kj5 a1 t14110 _ A27.out).mono ?_); rintro e w45 ⟨rfl, hb⟩; refine ⟨_, rfl, ?_⟩; have n0_ := Aside0.mk (blk_below (g := gb14101) (o := .cells #[.int .u32 a0_0, .int .i64 a0_1] 44 (0, 0)) (by (with_reducible repeat (first | refine blk_drewN ?_ _ | refine blk_drew ?_ | refine blk_alloc ?_ _)); exact BK14101.out) hb); have n1_ := Aside0.mk (blk_below (g := gb14109) (o := .cells #[.int .u32 t14106, .int .i64 t14107] 46 (0, 0)) (by (with_reducible repeat (first | refine blk_drewN ?_ _ | refine blk_drew ?_ | refine blk_alloc ?_ _)); exact BK14109.out) hb); have n2_ := Aside0.mk (below_step (by repeat (first | (with_reducible first | exact HB.out | apply below_alloc | apply pw_below_drewN | apply below_drew1 | refine below_set ?_ GE14101.out | refine below_set ?_ GE14109.out) | exact HB.out)) hb); clear BK14101; clear BK14109; clear HB; have BK14101 := n0_; have BK14109 := n1_; have HB := n2_; clear n0_ n1_ n2_; (try clear hb); (try clear hb2); (try clear hk); (try clear hi)) | ((with_reducible refine gate_callee (f := 59) rfl ?_); refine goesL_ (some 69) rfl rfl Tryd.func59 (by kernel_rfl) rfl #[.string t14110] rfl (by (try simp only [List.map_toArray, List.map_cons, List.map_nil]); first | done | rfl | (simp only [List.length_drop, List.length_take]; rfl)) ?_; (with_reducible refine (names_OfBlock.calls kj5 t14110 t14111 false _ A28.out).mono ?_); rintro e w46 ⟨rfl, hb⟩; refine ⟨_, rfl, ?_⟩; have n0_ := Aside0.mk (blk_below (g := gb14101) (o := .cells #[.int .u32 a0_0, .int .i64 a0_1] 44 (0, 0)) (by (with_reducible repeat (first | refine blk_drewN ?_ _ | refine blk_drew ?_ | refine blk_alloc ?_ _)); exact BK14101.out) hb); have n1_ := Aside0.mk (blk_below (g := gb14109) (o := .cells #[.int .u32 t14106, .int .i64 t14107] 46 (0, 0)) (by (with_reducible repeat (first | refine blk_drewN ?_ _ | refine blk_drew ?_ | refine blk_alloc ?_ _)); exact BK14109.out) hb); have n2_ := Aside0.mk (below_step (by repeat (first | (with_reducible first | exact HB.out | apply below_alloc | apply pw_below_drewN | apply below_drew1 | refine below_set ?_ GE14101.out | refine below_set ?_ GE14109.out) | exact HB.out)) hb); clear BK14101; clear BK14109; clear HB; have BK14101 := n0_; have BK14109 := n1_; have HB := n2_; clear n0_ n1_ n2_; (try clear hb); (try clear hb2); (try clear hk); (try clear hi)) | ((with_reducible refine gate_callee (f := 60) rfl ?_); refine goesL_ (some 73) rfl rfl Tryd.func60 (by kernel_rfl) rfl #[.int .u32 a1] rfl (by (try simp only [List.map_toArray, List.map_cons, List.map_nil]); first | done | rfl | (simp only [List.length_drop, List.length_take]; rfl)) ?_; (with_reducible refine (names_Block.calls kj5 a1 t14113 _ A29.out).mono ?_); rintro e w47 ⟨rfl, hb⟩; refine ⟨_, rfl, ?_⟩; have n0_ := Aside0.mk (blk_below (g := gb14101) (o := .cells #[.int .u32 a0_0, .int .i64 a0_1] 44 (0, 0)) (by (with_reducible repeat (first | refine blk_drewN ?_ _ | refine blk_drew ?_ | refine blk_alloc ?_ _)); exact BK14101.out) hb); have n1_ := Aside0.mk (blk_below (g := gb14109) (o := .cells #[.int .u32 t14106, .int .i64 t14107] 46 (0, 0)) (by (with_reducible repeat (first | refine blk_drewN ?_ _ | refine blk_drew ?_ | refine blk_alloc ?_ _)); exact BK14109.out) hb); have n2_ := Aside0.mk (below_step (by repeat (first | (with_reducible first | exact HB.out | apply below_alloc | apply pw_below_drewN | apply below_drew1 | refine below_set ?_ GE14101.out | refine below_set ?_ GE14109.out) | exact HB.out)) hb); clear BK14101; clear BK14109; clear HB; have BK14101 := n0_; have BK14109 := n1_; have HB := n2_; clear n0_ n1_ n2_; (try clear hb); (try clear hb2); (try clear hk); (try clear hi)) | ((with_reducible refine gate_callee (f := 61) rfl ?_); refine goesL_ (some 75) rfl rfl Tryd.func61 (by kernel_rfl) rfl #[.int .u32 a1] rfl (by (try simp only [List.map_toArray, List.map_cons, List.map_nil]); first | done | rfl | (simp only [List.length_drop, List.length_take]; rfl)) ?_; (with_reducible refine (virgateref12_Block.calls kj5 a1 t14114 _ A30.out).mono ?_); rintro e w48 ⟨rfl, hb⟩; refine ⟨_, rfl, ?_⟩; have n0_ := Aside0.mk (blk_below (g := gb14101) (o := .cells #[.int .u32 a0_0, .int .i64 a0_1] 44 (0, 0)) (by (with_reducible repeat (first | refine blk_drewN ?_ _ | refine blk_drew ?_ | refine blk_alloc ?_ _)); exact BK14101.out) hb); have n1_ := Aside0.mk (blk_below (g := gb14109) (o := .cells #[.int .u32 t14106, .int .i64 t14107] 46 (0, 0)) (by (with_reducible repeat (first | refine blk_drewN ?_ _ | refine blk_drew ?_ | refine blk_alloc ?_ _)); exact BK14109.out) hb); have n2_ := Aside0.mk (below_step (by repeat (first | (with_reducible first | exact HB.out | apply below_alloc | apply pw_below_drewN | apply below_drew1 | refine below_set ?_ GE14101.out | refine below_set ?_ GE14109.out) | exact HB.out)) hb); clear BK14101; clear BK14109; clear HB; have BK14101 := n0_; have BK14109 := n1_; have HB := n2_; clear n0_ n1_ n2_; (try clear hb); (try clear hb2); (try clear hk); (try clear hi)))
            go_ret
            exact ⟨by first | rfl | (simp [errW_none, errW_some] <;> rfl) | (simp [*, errW_none, errW_some] <;> rfl), by repeat (first | (with_reducible first | exact HB.out | apply below_alloc | apply pw_below_drewN | apply below_drew1 | refine below_set ?_ GE14101.out | refine below_set ?_ GE14109.out) | exact HB.out)⟩
        · rw [if_neg c31] at H
          have c31b0 : (t14113.toList == t14114.toList) = false := beq_eq_false_iff_ne.mpr c31
          have c31b1 : (t14113.toList != t14114.toList) = true := bne_iff_ne.mpr c31
          obtain rfl := Option.some.inj H
          go_wp2_with (first | ((with_reducible refine gate_callee (f := 60) rfl ?_); refine goesL_ (some 68) rfl rfl Tryd.func60 (by kernel_rfl) rfl #[.int .u32 a1] rfl (by (try simp only [List.map_toArray, List.map_cons, List.map_nil]); first | done | rfl | (simp only [List.length_drop, List.length_take]; rfl)) ?_; (with_reducible refine (names_Block.calls kj5 a1 t14110 _ A27.out).mono ?_); rintro e w49 ⟨rfl, hb⟩; refine ⟨_, rfl, ?_⟩; have n0_ := Aside0.mk (blk_below (g := gb14101) (o := .cells #[.int .u32 a0_0, .int .i64 a0_1] 44 (0, 0)) (by (with_reducible repeat (first | refine blk_drewN ?_ _ | refine blk_drew ?_ | refine blk_alloc ?_ _)); exact BK14101.out) hb); have n1_ := Aside0.mk (blk_below (g := gb14109) (o := .cells #[.int .u32 t14106, .int .i64 t14107] 46 (0, 0)) (by (with_reducible repeat (first | refine blk_drewN ?_ _ | refine blk_drew ?_ | refine blk_alloc ?_ _)); exact BK14109.out) hb); have n2_ := Aside0.mk (below_step (by repeat (first | (with_reducible first | exact HB.out | apply below_alloc | apply pw_below_drewN | apply below_drew1 | refine below_set ?_ GE14101.out | refine below_set ?_ GE14109.out) | exact HB.out)) hb); clear BK14101; clear BK14109; clear HB; have BK14101 := n0_; have BK14109 := n1_; have HB := n2_; clear n0_ n1_ n2_; (try clear hb); (try clear hb2); (try clear hk); (try clear hi)) | ((with_reducible refine gate_callee (f := 59) rfl ?_); refine goesL_ (some 69) rfl rfl Tryd.func59 (by kernel_rfl) rfl #[.string t14110] rfl (by (try simp only [List.map_toArray, List.map_cons, List.map_nil]); first | done | rfl | (simp only [List.length_drop, List.length_take]; rfl)) ?_; (with_reducible refine (names_OfBlock.calls kj5 t14110 t14111 t14112 _ A28.out).mono ?_); rintro e w50 ⟨rfl, hb⟩; refine ⟨_, rfl, ?_⟩; have n0_ := Aside0.mk (blk_below (g := gb14101) (o := .cells #[.int .u32 a0_0, .int .i64 a0_1] 44 (0, 0)) (by (with_reducible repeat (first | refine blk_drewN ?_ _ | refine blk_drew ?_ | refine blk_alloc ?_ _)); exact BK14101.out) hb); have n1_ := Aside0.mk (blk_below (g := gb14109) (o := .cells #[.int .u32 t14106, .int .i64 t14107] 46 (0, 0)) (by (with_reducible repeat (first | refine blk_drewN ?_ _ | refine blk_drew ?_ | refine blk_alloc ?_ _)); exact BK14109.out) hb); have n2_ := Aside0.mk (below_step (by repeat (first | (with_reducible first | exact HB.out | apply below_alloc | apply pw_below_drewN | apply below_drew1 | refine below_set ?_ GE14101.out | refine below_set ?_ GE14109.out) | exact HB.out)) hb); clear BK14101; clear BK14109; clear HB; have BK14101 := n0_; have BK14109 := n1_; have HB := n2_; clear n0_ n1_ n2_; (try clear hb); (try clear hb2); (try clear hk); (try clear hi)) | ((with_reducible refine gate_callee (f := 60) rfl ?_); refine goesL_ (some 73) rfl rfl Tryd.func60 (by kernel_rfl) rfl #[.int .u32 a1] rfl (by (try simp only [List.map_toArray, List.map_cons, List.map_nil]); first | done | rfl | (simp only [List.length_drop, List.length_take]; rfl)) ?_; (with_reducible refine (names_Block.calls kj5 a1 t14113 _ A29.out).mono ?_); rintro e w51 ⟨rfl, hb⟩; refine ⟨_, rfl, ?_⟩; have n0_ := Aside0.mk (blk_below (g := gb14101) (o := .cells #[.int .u32 a0_0, .int .i64 a0_1] 44 (0, 0)) (by (with_reducible repeat (first | refine blk_drewN ?_ _ | refine blk_drew ?_ | refine blk_alloc ?_ _)); exact BK14101.out) hb); have n1_ := Aside0.mk (blk_below (g := gb14109) (o := .cells #[.int .u32 t14106, .int .i64 t14107] 46 (0, 0)) (by (with_reducible repeat (first | refine blk_drewN ?_ _ | refine blk_drew ?_ | refine blk_alloc ?_ _)); exact BK14109.out) hb); have n2_ := Aside0.mk (below_step (by repeat (first | (with_reducible first | exact HB.out | apply below_alloc | apply pw_below_drewN | apply below_drew1 | refine below_set ?_ GE14101.out | refine below_set ?_ GE14109.out) | exact HB.out)) hb); clear BK14101; clear BK14109; clear HB; have BK14101 := n0_; have BK14109 := n1_; have HB := n2_; clear n0_ n1_ n2_; (try clear hb); (try clear hb2); (try clear hk); (try clear hi)) | ((with_reducible refine gate_callee (f := 61) rfl ?_); refine goesL_ (some 75) rfl rfl Tryd.func61 (by kernel_rfl) rfl #[.int .u32 a1] rfl (by (try simp only [List.map_toArray, List.map_cons, List.map_nil]); first | done | rfl | (simp only [List.length_drop, List.length_take]; rfl)) ?_; (with_reducible refine (virgateref12_Block.calls kj5 a1 t14114 _ A30.out).mono ?_); rintro e w52 ⟨rfl, hb⟩; refine ⟨_, rfl, ?_⟩; have n0_ := Aside0.mk (blk_below (g := gb14101) (o := .cells #[.int .u32 a0_0, .int .i64 a0_1] 44 (0, 0)) (by (with_reducible repeat (first | refine blk_drewN ?_ _ | refine blk_drew ?_ | refine blk_alloc ?_ _)); exact BK14101.out) hb); have n1_ := Aside0.mk (blk_below (g := gb14109) (o := .cells #[.int .u32 t14106, .int .i64 t14107] 46 (0, 0)) (by (with_reducible repeat (first | refine blk_drewN ?_ _ | refine blk_drew ?_ | refine blk_alloc ?_ _)); exact BK14109.out) hb); have n2_ := Aside0.mk (below_step (by repeat (first | (with_reducible first | exact HB.out | apply below_alloc | apply pw_below_drewN | apply below_drew1 | refine below_set ?_ GE14101.out | refine below_set ?_ GE14109.out) | exact HB.out)) hb); clear BK14101; clear BK14109; clear HB; have BK14101 := n0_; have BK14109 := n1_; have HB := n2_; clear n0_ n1_ n2_; (try clear hb); (try clear hb2); (try clear hk); (try clear hi)))
          go_ret
          exact ⟨by first | rfl | (simp [errW_none, errW_some] <;> rfl) | (simp [*, errW_none, errW_some] <;> rfl), by repeat (first | (with_reducible first | exact HB.out | apply below_alloc | apply pw_below_drewN | apply below_drew1 | refine below_set ?_ GE14101.out | refine below_set ?_ GE14109.out) | exact HB.out)⟩
end Go.Proofs.YtcdopgkkieenjaaDoor.V
end

-- LNNets
section
/- NamesNets: the plain law and the walk. -/
namespace Go.Proofs.YtcdopgkkieenjaaDoor.V
open Go.RowKit Go.Proofs.YtcdopgkkieenjaaDoorW.PrintWords Go.Proofs.YtcdopgkkieenjaaDoorW.PrintLast Go.Proofs.YtcdopgkkieenjaaDoorW.PrintMore
set_option linter.unusedVariables false
set_option linter.unusedSimpArgs false
theorem awake12_f (k : Nat) (hk : 8 ≤ k) : virgatelaw12_awake.f k = some true := by
  have h1 := block_name_f 167772230 (by omega) k (by omega)
  have e : firstN 167772230 = 167772224 := by decide
  rw [e] at h1
  have h2 := ofBlock_mk 167772224 (by omega) (by decide) k (by omega)
  unfold virgatelaw12_awake.f
  rw [show (167772230 : Int) = ((167772230 : Nat) : Int) from rfl, h1, Option.bind_some, show ((⟨#[98, 108, 111, 99, 107, 47]⟩ : ByteArray) ++ dashT 167772224 26) = pBlock ++ dashT 167772224 26 from rfl, h2, Option.bind_some, if_pos (by kernel_rfl), if_pos (by rfl)]
end Go.Proofs.YtcdopgkkieenjaaDoor.V
end

-- VFNamesOfhandle
section
-- PRINTED by print.py (a twelfth state) out of the translation. Not trusted: Lean checks it.
namespace Go.Proofs.YtcdopgkkieenjaaDoor.V
open Go.RowKit Go.Proofs.YtcdopgkkieenjaaDoorW.PrintWords Go.Proofs.YtcdopgkkieenjaaDoorW.PrintLast Go.Proofs.YtcdopgkkieenjaaDoorW.PrintMore
attribute [local go_sem] max2_int min2_int max_two min_two max_three min_three max_four min_four   -- for this text's walks alone
set_option linter.unusedVariables false
set_option linter.unusedSimpArgs false

/-! ### names_OfHandle: function 67 -/
def names_OfHandle.f (a0 : ByteArray) : Option (ByteArray × Bool) := (names_ofName.f a0 (⟨#[104, 97, 110, 100, 108, 101, 47]⟩ : ByteArray)).bind fun bt67101 => (some (bt67101.1, bt67101.2))
set_option maxHeartbeats 8000000 in
set_option maxRecDepth 100000 in
theorem names_OfHandle.calls (a0 : ByteArray) (r1 : ByteArray) (r2 : Bool) (w : World) (h : names_OfHandle.f a0 = some (r1, r2)) :
    Calls Tryd.prog 67 #[.string a0] w fun e w' => e = .returned (.tuple #[.string r1, .bool r2]) ∧ Below w.heap.size w w' := by
  have HB := Aside0.mk (Below.refl w.heap.size w)
  have H : ((names_ofName.f a0 (⟨#[104, 97, 110, 100, 108, 101, 47]⟩ : ByteArray)).bind fun bt67101 => (some (bt67101.1, bt67101.2))) = some (r1, r2) := h
  clear h
  replace H := Option.bind_eq_some_iff.mp H
  obtain ⟨⟨t67101, t67102⟩, A20, H⟩ := H
  replace H : (some (t67101, t67102)) = some (r1, r2) := H
  have A2 := Aside0.mk A20
  clear A20
  simp only [Option.some.injEq, Prod.mk.injEq] at H
  obtain ⟨rfl, rfl⟩ := H
  go_enter Tryd.func67, Tryd.ntmps67
  go_wp2_with (first | ((with_reducible refine gate_callee (f := 89) rfl ?_); refine goesL_ (some 5) rfl rfl Tryd.func89 (by kernel_rfl) rfl #[.string a0, .string (⟨#[104, 97, 110, 100, 108, 101, 47]⟩ : ByteArray)] rfl (by (try simp only [List.map_toArray, List.map_cons, List.map_nil]); first | done | rfl | (simp only [List.length_drop, List.length_take]; rfl)) ?_; (with_reducible refine (names_ofName.calls a0 (⟨#[104, 97, 110, 100, 108, 101, 47]⟩ : ByteArray) t67101 t67102 _ A2.out).mono ?_); rintro e w3 ⟨rfl, hb⟩; refine ⟨_, rfl, ?_⟩; have n0_ := Aside0.mk (below_step (by repeat (first | (with_reducible first | exact HB.out | apply below_alloc | apply pw_below_drewN | apply below_drew1) | exact HB.out)) hb); clear HB; have HB := n0_; clear n0_; (try clear hb); (try clear hb2); (try clear hk); (try clear hi)))
  go_ret2
  exact ⟨by first | rfl | (simp [errW_none, errW_some] <;> rfl) | (simp [*, errW_none, errW_some] <;> rfl), by repeat (first | (with_reducible first | exact HB.out | apply below_alloc | apply pw_below_drewN | apply below_drew1) | exact HB.out)⟩
end Go.Proofs.YtcdopgkkieenjaaDoor.V
end

-- VFNamesOfnode
section
-- PRINTED by print.py (a twelfth state) out of the translation. Not trusted: Lean checks it.
namespace Go.Proofs.YtcdopgkkieenjaaDoor.V
open Go.RowKit Go.Proofs.YtcdopgkkieenjaaDoorW.PrintWords Go.Proofs.YtcdopgkkieenjaaDoorW.PrintLast Go.Proofs.YtcdopgkkieenjaaDoorW.PrintMore
attribute [local go_sem] max2_int min2_int max_two min_two max_three min_three max_four min_four   -- for this text's walks alone
set_option linter.unusedVariables false
set_option linter.unusedSimpArgs false

/-! ### names_OfNode: function 68 -/
def names_OfNode.f (a0 : ByteArray) : Option (ByteArray × Bool) := (names_ofName.f a0 (⟨#[110, 111, 100, 101, 47]⟩ : ByteArray)).bind fun bt68101 => (some (bt68101.1, bt68101.2))
set_option maxHeartbeats 8000000 in
set_option maxRecDepth 100000 in
theorem names_OfNode.calls (a0 : ByteArray) (r1 : ByteArray) (r2 : Bool) (w : World) (h : names_OfNode.f a0 = some (r1, r2)) :
    Calls Tryd.prog 68 #[.string a0] w fun e w' => e = .returned (.tuple #[.string r1, .bool r2]) ∧ Below w.heap.size w w' := by
  have HB := Aside0.mk (Below.refl w.heap.size w)
  have H : ((names_ofName.f a0 (⟨#[110, 111, 100, 101, 47]⟩ : ByteArray)).bind fun bt68101 => (some (bt68101.1, bt68101.2))) = some (r1, r2) := h
  clear h
  replace H := Option.bind_eq_some_iff.mp H
  obtain ⟨⟨t68101, t68102⟩, A20, H⟩ := H
  replace H : (some (t68101, t68102)) = some (r1, r2) := H
  have A2 := Aside0.mk A20
  clear A20
  simp only [Option.some.injEq, Prod.mk.injEq] at H
  obtain ⟨rfl, rfl⟩ := H
  go_enter Tryd.func68, Tryd.ntmps68
  go_wp2_with (first | ((with_reducible refine gate_callee (f := 89) rfl ?_); refine goesL_ (some 5) rfl rfl Tryd.func89 (by kernel_rfl) rfl #[.string a0, .string (⟨#[110, 111, 100, 101, 47]⟩ : ByteArray)] rfl (by (try simp only [List.map_toArray, List.map_cons, List.map_nil]); first | done | rfl | (simp only [List.length_drop, List.length_take]; rfl)) ?_; (with_reducible refine (names_ofName.calls a0 (⟨#[110, 111, 100, 101, 47]⟩ : ByteArray) t68101 t68102 _ A2.out).mono ?_); rintro e w3 ⟨rfl, hb⟩; refine ⟨_, rfl, ?_⟩; have n0_ := Aside0.mk (below_step (by repeat (first | (with_reducible first | exact HB.out | apply below_alloc | apply pw_below_drewN | apply below_drew1) | exact HB.out)) hb); clear HB; have HB := n0_; clear n0_; (try clear hb); (try clear hb2); (try clear hk); (try clear hi)))
  go_ret2
  exact ⟨by first | rfl | (simp [errW_none, errW_some] <;> rfl) | (simp [*, errW_none, errW_some] <;> rfl), by repeat (first | (with_reducible first | exact HB.out | apply below_alloc | apply pw_below_drewN | apply below_drew1) | exact HB.out)⟩
end Go.Proofs.YtcdopgkkieenjaaDoor.V
end

