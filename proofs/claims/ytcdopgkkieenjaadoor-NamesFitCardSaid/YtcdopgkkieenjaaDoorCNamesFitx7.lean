/- The law NamesFit for every input: texts of ours, put together (part 8 of 9). No further condition. -/
import Derived.Test.YtcdopgkkieenjaaDoorCNamesFitx2
import Derived.ChangeSame
import Derived.WideShapes
import Derived.Test.YtcdopgkkieenjaaDoorCNamesFitx1
import Derived.Test.YtcdopgkkieenjaaDoorCNamesFitx6
import Derived.Test.YtcdopgkkieenjaaDoorCNamesFitx5
-- IOpen
section
/- Arguments opened: a net, four bytes. -/
namespace Go.Proofs.YtcdopgkkieenjaaDoor.V
open Go.RowKit Go.Proofs.YtcdopgkkieenjaaDoorW.PrintWords Go.Proofs.YtcdopgkkieenjaaDoorW.PrintLast Go.Proofs.YtcdopgkkieenjaaDoorW.PrintMore
open Go.ChangeShapes Go.WideShapes Go.ChangeAt
set_option linter.unusedVariables false
set_option maxRecDepth 100000
section
variable {H : Type} {enc : TypeId × Value → H} {w : World} {base b0 : Nat} {sp : Nat → Bool} {held : Bool}
/-- A net as it comes in. -/
def NetIs (v : Value) (x : Int × Int) : Prop := v = .agg #[.int .u32 x.1, .int .i64 x.2] ∧ (Lit.int .u32 x.1).wf = true ∧ (Lit.int .i64 x.2).wf = true
theorem open_net {v : Value} {d : DataW H} {ps : List MemPlace} (hval : Value.okWide Tryd.prog w .any b0 44 v) (hd : DataW.Trod enc Tryd.prog w base sp held 44 v d ps) : ∃ x : Int × Int, NetIs v x := by
  obtain ⟨cs, rfl, hz⟩ := okWide_struct Tryd.underlying44 hval
  obtain ⟨fuel, hf⟩ := hd
  obtain ⟨y0, y1, n, _, hl, h0, h1⟩ := trod_struct2 Tryd.underlying44 hf
  have hsz : cs.toList.length = 2 := hl.trans (by kernel_rfl)
  obtain ⟨z0, e0, _, w0⟩ := DataW.trod_int Tryd.underlying22 h0
  obtain ⟨z1, e1, _, w1⟩ := DataW.trod_int Tryd.underlying3 h1
  match hc : cs.toList, hsz with
  | [p, q], _ =>
    have c0 : Tryd.prog.cellsOf 22 = 1 := by kernel_rfl
    have c1 : Tryd.prog.cellsOf 3 = 1 := by kernel_rfl
    have e0' : (cs.toList.drop 0).take (Tryd.prog.cellsOf 22) = [Value.int .u32 z0] := e0
    have e1' : (cs.toList.drop 1).take (Tryd.prog.cellsOf 3) = [Value.int .i64 z1] := e1
    rw [c0, hc] at e0'
    rw [c1, hc] at e1'
    simp at e0' e1'
    refine ⟨(z0, z1), ?_, w0, w1⟩
    rw [show cs = #[p, q] by rw [← Array.toArray_toList (xs := cs), hc], e0', e1']
end
end Go.Proofs.YtcdopgkkieenjaaDoor.V
end

-- VFVirgatelaw12Awake
section
-- PRINTED by print.py (a twelfth state) out of the translation. Not trusted: Lean checks it.
namespace Go.Proofs.YtcdopgkkieenjaaDoor.V
open Go.RowKit Go.Proofs.YtcdopgkkieenjaaDoorW.PrintWords Go.Proofs.YtcdopgkkieenjaaDoorW.PrintLast Go.Proofs.YtcdopgkkieenjaaDoorW.PrintMore
attribute [local go_sem] max2_int min2_int max_two min_two max_three min_three max_four min_four   -- for this text's walks alone
set_option linter.unusedVariables false
set_option linter.unusedSimpArgs false

/-! ### virgatelaw12_awake: function 63 -/
def virgatelaw12_awake.f (k : Nat)  : Option (Bool) := (names_Block.f k 167772230).bind fun t63101 => ((names_OfBlock.f k t63101).bind fun bt63102 => (if t63101.toList = ([98, 108, 111, 99, 107, 47, 49, 48, 46, 48, 46, 48, 46, 54, 52, 45, 50, 54] : List UInt8) then (if bt63102.1 = 167772224 then (some bt63102.2) else (some false)) else (some false)))
theorem virgatelaw12_awake.mono : ∀ k, LeO (virgatelaw12_awake.f k ) (virgatelaw12_awake.f (k + 1) ) := by
  intro  k
  unfold virgatelaw12_awake.f
  repeat' first
      | (with_reducible exact names_Block.mono _ _)
      | (with_reducible exact names_OfBlock.mono _ _)
      | (with_reducible exact LeO.refl _)
      | (with_reducible exact LeO.none _)
      | (with_reducible refine LeO.ite ?_ ?_)
      | (with_reducible refine LeO.bind ?_ (fun _ => ?_))
      | exact names_Block.mono _ _
      | exact names_OfBlock.mono _ _
      | exact LeO.none _
      | refine LeO.ite ?_ ?_
      | refine LeO.bind ?_ (fun _ => ?_)
set_option maxHeartbeats 8000000 in
set_option maxRecDepth 100000 in
theorem virgatelaw12_awake.calls (k : Nat)  (r : Bool) (w : World) (h : virgatelaw12_awake.f k  = some r) :
    Calls Tryd.prog 63 #[] w fun e w' => e = .returned (.bool r) ∧ Below w.heap.size w w' := by
  have HB := Aside0.mk (Below.refl w.heap.size w)
  have H : ((names_Block.f k 167772230).bind fun t63101 => ((names_OfBlock.f k t63101).bind fun bt63102 => (if t63101.toList = ([98, 108, 111, 99, 107, 47, 49, 48, 46, 48, 46, 48, 46, 54, 52, 45, 50, 54] : List UInt8) then (if bt63102.1 = 167772224 then (some bt63102.2) else (some false)) else (some false)))) = some r := h
  clear h
  replace H := Option.bind_eq_some_iff.mp H
  obtain ⟨t63101, A10, H⟩ := H
  replace H : ((names_OfBlock.f k t63101).bind fun bt63102 => (if t63101.toList = ([98, 108, 111, 99, 107, 47, 49, 48, 46, 48, 46, 48, 46, 54, 52, 45, 50, 54] : List UInt8) then (if bt63102.1 = 167772224 then (some bt63102.2) else (some false)) else (some false))) = some r := H
  have A1 := Aside0.mk A10
  clear A10
  replace H := Option.bind_eq_some_iff.mp H
  obtain ⟨⟨t63102, t63103⟩, A20, H⟩ := H
  replace H : (if t63101.toList = ([98, 108, 111, 99, 107, 47, 49, 48, 46, 48, 46, 48, 46, 54, 52, 45, 50, 54] : List UInt8) then (if t63102 = 167772224 then (some t63103) else (some false)) else (some false)) = some r := H
  have A2 := Aside0.mk A20
  clear A20
  by_cases c3 : t63101.toList = ([98, 108, 111, 99, 107, 47, 49, 48, 46, 48, 46, 48, 46, 54, 52, 45, 50, 54] : List UInt8)
  · rw [if_pos c3] at H
    have c3b0 : (t63101.toList == ([98, 108, 111, 99, 107, 47, 49, 48, 46, 48, 46, 48, 46, 54, 52, 45, 50, 54] : List UInt8)) = true := beq_iff_eq.mpr c3
    have c3b1 : (t63101.toList != ([98, 108, 111, 99, 107, 47, 49, 48, 46, 48, 46, 48, 46, 54, 52, 45, 50, 54] : List UInt8)) = false := bne_eq_false_iff_eq.mpr c3
    clear c3
    by_cases c4 : t63102 = 167772224
    · rw [if_pos c4] at H
      have c4b0 : (t63102 == 167772224) = true := beq_iff_eq.mpr c4
      have c4b1 : (t63102 != 167772224) = false := bne_eq_false_iff_eq.mpr c4
      clear c4
      obtain rfl := Option.some.inj H
      go_enter Tryd.func63, Tryd.ntmps63
      go_wp2_with (first | ((with_reducible refine gate_callee (f := 60) rfl ?_); refine goesL_ (some 4) rfl rfl Tryd.func60 (by kernel_rfl) rfl #[.int .u32 167772230] rfl (by (try simp only [List.map_toArray, List.map_cons, List.map_nil]); first | done | rfl | (simp only [List.length_drop, List.length_take]; rfl)) ?_; (with_reducible refine (names_Block.calls k 167772230 t63101 _ A1.out).mono ?_); rintro e w5 ⟨rfl, hb⟩; refine ⟨_, rfl, ?_⟩; have n0_ := Aside0.mk (below_step (by repeat (first | (with_reducible first | exact HB.out | apply below_alloc | apply pw_below_drewN | apply below_drew1) | exact HB.out)) hb); clear HB; have HB := n0_; clear n0_; (try clear hb); (try clear hb2); (try clear hk); (try clear hi)) | ((with_reducible refine gate_callee (f := 59) rfl ?_); refine goesL_ (some 7) rfl rfl Tryd.func59 (by kernel_rfl) rfl #[.string t63101] rfl (by (try simp only [List.map_toArray, List.map_cons, List.map_nil]); first | done | rfl | (simp only [List.length_drop, List.length_take]; rfl)) ?_; (with_reducible refine (names_OfBlock.calls k t63101 t63102 t63103 _ A2.out).mono ?_); rintro e w6 ⟨rfl, hb⟩; refine ⟨_, rfl, ?_⟩; have n0_ := Aside0.mk (below_step (by repeat (first | (with_reducible first | exact HB.out | apply below_alloc | apply pw_below_drewN | apply below_drew1) | exact HB.out)) hb); clear HB; have HB := n0_; clear n0_; (try clear hb); (try clear hb2); (try clear hk); (try clear hi)))
      go_ret
      exact ⟨by first | rfl | (simp [errW_none, errW_some] <;> rfl) | (simp [*, errW_none, errW_some] <;> rfl), by repeat (first | (with_reducible first | exact HB.out | apply below_alloc | apply pw_below_drewN | apply below_drew1) | exact HB.out)⟩
    · rw [if_neg c4] at H
      have c4b0 : (t63102 == 167772224) = false := beq_eq_false_iff_ne.mpr c4
      have c4b1 : (t63102 != 167772224) = true := bne_iff_ne.mpr c4
      obtain rfl := Option.some.inj H
      go_enter Tryd.func63, Tryd.ntmps63
      go_wp2_with (first | ((with_reducible refine gate_callee (f := 60) rfl ?_); refine goesL_ (some 4) rfl rfl Tryd.func60 (by kernel_rfl) rfl #[.int .u32 167772230] rfl (by (try simp only [List.map_toArray, List.map_cons, List.map_nil]); first | done | rfl | (simp only [List.length_drop, List.length_take]; rfl)) ?_; (with_reducible refine (names_Block.calls k 167772230 t63101 _ A1.out).mono ?_); rintro e w7 ⟨rfl, hb⟩; refine ⟨_, rfl, ?_⟩; have n0_ := Aside0.mk (below_step (by repeat (first | (with_reducible first | exact HB.out | apply below_alloc | apply pw_below_drewN | apply below_drew1) | exact HB.out)) hb); clear HB; have HB := n0_; clear n0_; (try clear hb); (try clear hb2); (try clear hk); (try clear hi)) | ((with_reducible refine gate_callee (f := 59) rfl ?_); refine goesL_ (some 7) rfl rfl Tryd.func59 (by kernel_rfl) rfl #[.string t63101] rfl (by (try simp only [List.map_toArray, List.map_cons, List.map_nil]); first | done | rfl | (simp only [List.length_drop, List.length_take]; rfl)) ?_; (with_reducible refine (names_OfBlock.calls k t63101 t63102 t63103 _ A2.out).mono ?_); rintro e w8 ⟨rfl, hb⟩; refine ⟨_, rfl, ?_⟩; have n0_ := Aside0.mk (below_step (by repeat (first | (with_reducible first | exact HB.out | apply below_alloc | apply pw_below_drewN | apply below_drew1) | exact HB.out)) hb); clear HB; have HB := n0_; clear n0_; (try clear hb); (try clear hb2); (try clear hk); (try clear hi)))
      go_ret
      exact ⟨by first | rfl | (simp [errW_none, errW_some] <;> rfl) | (simp [*, errW_none, errW_some] <;> rfl), by repeat (first | (with_reducible first | exact HB.out | apply below_alloc | apply pw_below_drewN | apply below_drew1) | exact HB.out)⟩
  · rw [if_neg c3] at H
    have c3b0 : (t63101.toList == ([98, 108, 111, 99, 107, 47, 49, 48, 46, 48, 46, 48, 46, 54, 52, 45, 50, 54] : List UInt8)) = false := beq_eq_false_iff_ne.mpr c3
    have c3b1 : (t63101.toList != ([98, 108, 111, 99, 107, 47, 49, 48, 46, 48, 46, 48, 46, 54, 52, 45, 50, 54] : List UInt8)) = true := bne_iff_ne.mpr c3
    obtain rfl := Option.some.inj H
    go_enter Tryd.func63, Tryd.ntmps63
    go_wp2_with (first | ((with_reducible refine gate_callee (f := 60) rfl ?_); refine goesL_ (some 4) rfl rfl Tryd.func60 (by kernel_rfl) rfl #[.int .u32 167772230] rfl (by (try simp only [List.map_toArray, List.map_cons, List.map_nil]); first | done | rfl | (simp only [List.length_drop, List.length_take]; rfl)) ?_; (with_reducible refine (names_Block.calls k 167772230 t63101 _ A1.out).mono ?_); rintro e w9 ⟨rfl, hb⟩; refine ⟨_, rfl, ?_⟩; have n0_ := Aside0.mk (below_step (by repeat (first | (with_reducible first | exact HB.out | apply below_alloc | apply pw_below_drewN | apply below_drew1) | exact HB.out)) hb); clear HB; have HB := n0_; clear n0_; (try clear hb); (try clear hb2); (try clear hk); (try clear hi)) | ((with_reducible refine gate_callee (f := 59) rfl ?_); refine goesL_ (some 7) rfl rfl Tryd.func59 (by kernel_rfl) rfl #[.string t63101] rfl (by (try simp only [List.map_toArray, List.map_cons, List.map_nil]); first | done | rfl | (simp only [List.length_drop, List.length_take]; rfl)) ?_; (with_reducible refine (names_OfBlock.calls k t63101 t63102 t63103 _ A2.out).mono ?_); rintro e w10 ⟨rfl, hb⟩; refine ⟨_, rfl, ?_⟩; have n0_ := Aside0.mk (below_step (by repeat (first | (with_reducible first | exact HB.out | apply below_alloc | apply pw_below_drewN | apply below_drew1) | exact HB.out)) hb); clear HB; have HB := n0_; clear n0_; (try clear hb); (try clear hb2); (try clear hk); (try clear hi)))
    go_ret
    exact ⟨by first | rfl | (simp [errW_none, errW_some] <;> rfl) | (simp [*, errW_none, errW_some] <;> rfl), by repeat (first | (with_reducible first | exact HB.out | apply below_alloc | apply pw_below_drewN | apply below_drew1) | exact HB.out)⟩
end Go.Proofs.YtcdopgkkieenjaaDoor.V
end

-- VE46
section
-- PRINTED by print.py (a twelfth state) out of the translation. Not trusted: Lean checks it.
namespace Go.Proofs.YtcdopgkkieenjaaDoor.V
open Go.RowKit Go.Proofs.YtcdopgkkieenjaaDoorW.PrintWords Go.Proofs.YtcdopgkkieenjaaDoorW.PrintLast Go.Proofs.YtcdopgkkieenjaaDoorW.PrintMore
attribute [local go_sem] max2_int min2_int max_two min_two max_three min_three max_four min_four   -- for this text's walks alone
set_option linter.unusedVariables false
set_option linter.unusedSimpArgs false

theorem eqA46 (d : Nat) (w : World) (x0 y0 : Int) (x1 y1 : Int) :
    (Op.equalIn (d + 2) 46 (.agg #[.int .u32 x0, .int .i64 x1]) (.agg #[.int .u32 y0, .int .i64 y1])).run Tryd.prog w = .ok (x0 == y0 && (x1 == y1)) w := by
  refine eqA_of Tryd.underlying46 (by kernel_rfl) ?_
  refine eqf_cons (by rfl) (by go_simp; rfl) (by go_simp; rfl) (by go_simp) ?_
  exact eqf_last (by rfl) (by go_simp; rfl) (by go_simp; rfl) (by go_simp)
end Go.Proofs.YtcdopgkkieenjaaDoor.V
end

-- VFVirgatelaw12Namesnets
section
-- PRINTED by print.py (a twelfth state) out of the translation. Not trusted: Lean checks it.
namespace Go.Proofs.YtcdopgkkieenjaaDoor.V
open Go.RowKit Go.Proofs.YtcdopgkkieenjaaDoorW.PrintWords Go.Proofs.YtcdopgkkieenjaaDoorW.PrintLast Go.Proofs.YtcdopgkkieenjaaDoorW.PrintMore
attribute [local go_sem] max2_int min2_int max_two min_two max_three min_three max_four min_four   -- for this text's walks alone
set_option linter.unusedVariables false
set_option linter.unusedSimpArgs false

attribute [local go_sem high] eqA46
/-! ### virgatelaw12_NamesNets: function 14 -/
def virgatelaw12_NamesNets.j0 : Nat → Int → Bool → Option (Bool)
  | 0, _, _ => none
  | k + 1, x1, x65 => if x65 = true then (some false) else ((names_Block.f k x1).bind fun t14110 => ((names_OfBlock.f k t14110).bind fun bt14111 => ((names_Block.f k x1).bind fun t14113 => ((virgateref12_Block.f k x1).bind fun t14114 => (if t14113.toList = t14114.toList then (if bt14111.2 = true then ((virgateref12_First.f x1).bind fun t14115 => (if bt14111.1 = t14115 then ((virgatelaw12_awake.f k).bind fun t14116 => (some t14116)) else (some false))) else (some false)) else (some false))))))
def virgatelaw12_NamesNets.f (k : Nat) (a0_0 : Int) (a0_1 : Int) (a1 : Int) : Option (Bool) := (names_Pool.f k a0_0 a0_1).bind fun bt14102 => ((virgateref12_Pool.f k a0_0 a0_1).bind fun bt14104 => ((names_OfPool.f k bt14102.1).bind fun bt14106 => (if ((bt14102.2 == 0) != bt14104.2) = true then (virgatelaw12_NamesNets.j0 k a1 true) else (if bt14104.2 = true then (if bt14102.1.toList = bt14104.1.toList then (if (bt14106.2.2 != bt14104.2) = true then (virgatelaw12_NamesNets.j0 k a1 true) else (virgatelaw12_NamesNets.j0 k a1 (!(bt14106.1 == a0_0) || (!(bt14106.2.1 == a0_1))))) else (virgatelaw12_NamesNets.j0 k a1 true)) else (if bt14102.2 = 1 then (if bt14102.1.toList = bt14104.1.toList then (if (bt14106.2.2 != bt14104.2) = true then (virgatelaw12_NamesNets.j0 k a1 true) else (virgatelaw12_NamesNets.j0 k a1 false)) else (virgatelaw12_NamesNets.j0 k a1 true)) else (virgatelaw12_NamesNets.j0 k a1 true))))))
theorem virgatelaw12_NamesNets.mono_l : ∀ k, (∀ y0 y1, LeO (virgatelaw12_NamesNets.j0 k y0 y1) (virgatelaw12_NamesNets.j0 (k + 1) y0 y1))
  | 0 => fun _ _ r h => by simp [virgatelaw12_NamesNets.j0] at h
  | k + 1 => by
    have ih0 := virgatelaw12_NamesNets.mono_l k
    · intro y0 y1
      unfold virgatelaw12_NamesNets.j0
      repeat' first
      | (with_reducible exact ih0 _ _)
      | (with_reducible exact names_Block.mono _ _)
      | (with_reducible exact names_OfBlock.mono _ _)
      | (with_reducible exact names_OfPool.mono _ _)
      | (with_reducible exact names_Pool.mono _ _ _)
      | (with_reducible exact virgatelaw12_awake.mono _)
      | (with_reducible exact virgateref12_Block.mono _ _)
      | (with_reducible exact virgateref12_Pool.mono _ _ _)
      | (with_reducible exact LeO.refl _)
      | (with_reducible exact LeO.none _)
      | (with_reducible refine LeO.ite ?_ ?_)
      | (with_reducible refine LeO.bind ?_ (fun _ => ?_))
      | exact ih0 _ _
      | exact names_Block.mono _ _
      | exact names_OfBlock.mono _ _
      | exact names_OfPool.mono _ _
      | exact names_Pool.mono _ _ _
      | exact virgatelaw12_awake.mono _
      | exact virgateref12_Block.mono _ _
      | exact virgateref12_Pool.mono _ _ _
      | exact LeO.none _
      | refine LeO.ite ?_ ?_
      | refine LeO.bind ?_ (fun _ => ?_)
theorem virgatelaw12_NamesNets.mono : ∀ a0 a1 a2 k, LeO (virgatelaw12_NamesNets.f k a0 a1 a2) (virgatelaw12_NamesNets.f (k + 1) a0 a1 a2) := by
  intro a0 a1 a2 k
  have ih0 := virgatelaw12_NamesNets.mono_l k
  unfold virgatelaw12_NamesNets.f
  repeat' first
      | (with_reducible exact ih0 _ _)
      | (with_reducible exact names_Block.mono _ _)
      | (with_reducible exact names_OfBlock.mono _ _)
      | (with_reducible exact names_OfPool.mono _ _)
      | (with_reducible exact names_Pool.mono _ _ _)
      | (with_reducible exact virgatelaw12_awake.mono _)
      | (with_reducible exact virgateref12_Block.mono _ _)
      | (with_reducible exact virgateref12_Pool.mono _ _ _)
      | (with_reducible exact LeO.refl _)
      | (with_reducible exact LeO.none _)
      | (with_reducible refine LeO.ite ?_ ?_)
      | (with_reducible refine LeO.bind ?_ (fun _ => ?_))
      | exact ih0 _ _
      | exact names_Block.mono _ _
      | exact names_OfBlock.mono _ _
      | exact names_OfPool.mono _ _
      | exact names_Pool.mono _ _ _
      | exact virgatelaw12_awake.mono _
      | exact virgateref12_Block.mono _ _
      | exact virgateref12_Pool.mono _ _ _
      | exact LeO.none _
      | refine LeO.ite ?_ ?_
      | refine LeO.bind ?_ (fun _ => ?_)
set_option maxHeartbeats 8000000 in
set_option maxRecDepth 100000 in
theorem virgatelaw12_NamesNets.calls (k : Nat) (a0_0 : Int) (a0_1 : Int) (a1 : Int) (r : Bool) (w : World) (h : virgatelaw12_NamesNets.f k a0_0 a0_1 a1 = some r) :
    Calls Tryd.prog 14 #[.agg #[.int .u32 a0_0, .int .i64 a0_1], .int .u32 a1] w fun e w' => e = .returned (.bool r) ∧ Below w.heap.size w w' := by
  have hu44 := Tryd.underlying44
  have hu46 := Tryd.underlying46
  have HB := Aside0.mk (Below.refl w.heap.size w)
  have H : ((names_Pool.f k a0_0 a0_1).bind fun bt14102 => ((virgateref12_Pool.f k a0_0 a0_1).bind fun bt14104 => ((names_OfPool.f k bt14102.1).bind fun bt14106 => (if ((bt14102.2 == 0) != bt14104.2) = true then (virgatelaw12_NamesNets.j0 k a1 true) else (if bt14104.2 = true then (if bt14102.1.toList = bt14104.1.toList then (if (bt14106.2.2 != bt14104.2) = true then (virgatelaw12_NamesNets.j0 k a1 true) else (virgatelaw12_NamesNets.j0 k a1 (!(bt14106.1 == a0_0) || (!(bt14106.2.1 == a0_1))))) else (virgatelaw12_NamesNets.j0 k a1 true)) else (if bt14102.2 = 1 then (if bt14102.1.toList = bt14104.1.toList then (if (bt14106.2.2 != bt14104.2) = true then (virgatelaw12_NamesNets.j0 k a1 true) else (virgatelaw12_NamesNets.j0 k a1 false)) else (virgatelaw12_NamesNets.j0 k a1 true)) else (virgatelaw12_NamesNets.j0 k a1 true))))))) = some r := h
  clear h
  replace H := Option.bind_eq_some_iff.mp H
  obtain ⟨⟨t14102, t14103⟩, A30, H⟩ := H
  replace H : ((virgateref12_Pool.f k a0_0 a0_1).bind fun bt14104 => ((names_OfPool.f k t14102).bind fun bt14106 => (if ((t14103 == 0) != bt14104.2) = true then (virgatelaw12_NamesNets.j0 k a1 true) else (if bt14104.2 = true then (if t14102.toList = bt14104.1.toList then (if (bt14106.2.2 != bt14104.2) = true then (virgatelaw12_NamesNets.j0 k a1 true) else (virgatelaw12_NamesNets.j0 k a1 (!(bt14106.1 == a0_0) || (!(bt14106.2.1 == a0_1))))) else (virgatelaw12_NamesNets.j0 k a1 true)) else (if t14103 = 1 then (if t14102.toList = bt14104.1.toList then (if (bt14106.2.2 != bt14104.2) = true then (virgatelaw12_NamesNets.j0 k a1 true) else (virgatelaw12_NamesNets.j0 k a1 false)) else (virgatelaw12_NamesNets.j0 k a1 true)) else (virgatelaw12_NamesNets.j0 k a1 true)))))) = some r := H
  have A3 := Aside0.mk A30
  clear A30
  replace H := Option.bind_eq_some_iff.mp H
  obtain ⟨⟨t14104, t14105⟩, A40, H⟩ := H
  replace H : ((names_OfPool.f k t14102).bind fun bt14106 => (if ((t14103 == 0) != t14105) = true then (virgatelaw12_NamesNets.j0 k a1 true) else (if t14105 = true then (if t14102.toList = t14104.toList then (if (bt14106.2.2 != t14105) = true then (virgatelaw12_NamesNets.j0 k a1 true) else (virgatelaw12_NamesNets.j0 k a1 (!(bt14106.1 == a0_0) || (!(bt14106.2.1 == a0_1))))) else (virgatelaw12_NamesNets.j0 k a1 true)) else (if t14103 = 1 then (if t14102.toList = t14104.toList then (if (bt14106.2.2 != t14105) = true then (virgatelaw12_NamesNets.j0 k a1 true) else (virgatelaw12_NamesNets.j0 k a1 false)) else (virgatelaw12_NamesNets.j0 k a1 true)) else (virgatelaw12_NamesNets.j0 k a1 true))))) = some r := H
  have A4 := Aside0.mk A40
  clear A40
  replace H := Option.bind_eq_some_iff.mp H
  obtain ⟨⟨t14106, t14107, t14108⟩, A50, H⟩ := H
  replace H : (if ((t14103 == 0) != t14105) = true then (virgatelaw12_NamesNets.j0 k a1 true) else (if t14105 = true then (if t14102.toList = t14104.toList then (if (t14108 != t14105) = true then (virgatelaw12_NamesNets.j0 k a1 true) else (virgatelaw12_NamesNets.j0 k a1 (!(t14106 == a0_0) || (!(t14107 == a0_1))))) else (virgatelaw12_NamesNets.j0 k a1 true)) else (if t14103 = 1 then (if t14102.toList = t14104.toList then (if (t14108 != t14105) = true then (virgatelaw12_NamesNets.j0 k a1 true) else (virgatelaw12_NamesNets.j0 k a1 false)) else (virgatelaw12_NamesNets.j0 k a1 true)) else (virgatelaw12_NamesNets.j0 k a1 true)))) = some r := H
  have A5 := Aside0.mk A50
  clear A50
  have HC6 := Aside0.mk H
  clear H
  go_enter Tryd.func14, Tryd.ntmps14
  go_upto_region 4 with (first | ((with_reducible refine gate_dst (N := 2) rfl ?_); refine box_event ?hg (N := 2) ?hd (cs := #[.int .u32 a0_0, .int .i64 a0_1]) (t := 44) ?hr ?_; (case hd => rfl); (case hg => rfl); (case hr => first | (go_simp; done) | (go_simp; rfl)); intro gb14101 hg w7 hbox hb; have n0_ := Aside0.mk (below_step (by repeat (first | (with_reducible first | exact HB.out | apply below_alloc | apply pw_below_drewN | apply below_drew1) | exact HB.out)) hb); have n1_ := Aside0.mk (hbox); have n2_ := Aside0.mk ((by rw [hg]; exact (below_size (by repeat (first | (with_reducible first | exact HB.out | apply below_alloc | apply pw_below_drewN | apply below_drew1) | exact HB.out))) : w.heap.size ≤ gb14101)); have n3_ := Aside0.mk ((by rw [hg]; exact (below_size (by repeat (first | (with_reducible first | exact HB.out | apply below_alloc | apply pw_below_drewN | apply below_drew1) | exact HB.out))) : w.heap.size ≤ gb14101)); clear HB; have HB := n0_; have BK14101 := n1_; have GW14101 := n2_; have GE14101 := n3_; clear n0_ n1_ n2_ n3_; clear hb hbox hg; have hcz8_0 : w7.cell? ⟨gb14101, 0, none⟩ = some (.int .u32 a0_0) := (blk_cell BK14101.out 0).trans rfl; have hcz8_1 : w7.cell? ⟨gb14101, 1, none⟩ = some (.int .i64 a0_1) := (blk_cell BK14101.out 1).trans rfl; have hfz8_0 := blk_frozen BK14101.out 0; have hfz8_1 := blk_frozen BK14101.out 1) | ((with_reducible refine gate_callee (f := 56) rfl ?_); refine goesL_ (some 19) rfl rfl Tryd.func56 (by kernel_rfl) rfl #[.agg #[.int .u32 a0_0, .int .i64 a0_1]] rfl (by (try simp only [List.map_toArray, List.map_cons, List.map_nil]); first | done | rfl | (simp only [List.length_drop, List.length_take]; rfl)) ?_; (with_reducible refine (names_Pool.calls k a0_0 a0_1 t14102 t14103 _ A3.out).mono ?_); rintro e w9 ⟨rfl, hb⟩; refine ⟨_, rfl, ?_⟩; have n0_ := Aside0.mk (blk_below (g := gb14101) (o := .cells #[.int .u32 a0_0, .int .i64 a0_1] 44 (0, 0)) (by (with_reducible repeat (first | refine blk_drewN ?_ _ | refine blk_drew ?_ | refine blk_alloc ?_ _)); exact BK14101.out) hb); have n1_ := Aside0.mk (below_step (by repeat (first | (with_reducible first | exact HB.out | apply below_alloc | apply pw_below_drewN | apply below_drew1 | refine below_set ?_ GE14101.out) | exact HB.out)) hb); clear BK14101; clear HB; have BK14101 := n0_; have HB := n1_; clear n0_ n1_; (try clear hb); (try clear hb2); (try clear hk); (try clear hi); have hcz10_0 : w9.cell? ⟨gb14101, 0, none⟩ = some (.int .u32 a0_0) := (blk_cell BK14101.out 0).trans rfl; have hcz10_1 : w9.cell? ⟨gb14101, 1, none⟩ = some (.int .i64 a0_1) := (blk_cell BK14101.out 1).trans rfl; have hfz10_0 := blk_frozen BK14101.out 0; have hfz10_1 := blk_frozen BK14101.out 1) | ((with_reducible refine gate_callee (f := 57) rfl ?_); refine goesL_ (some 24) rfl rfl Tryd.func57 (by kernel_rfl) rfl #[.agg #[.int .u32 a0_0, .int .i64 a0_1]] rfl (by (try simp only [List.map_toArray, List.map_cons, List.map_nil]); first | done | rfl | (simp only [List.length_drop, List.length_take]; rfl)) ?_; (with_reducible refine (virgateref12_Pool.calls k a0_0 a0_1 t14104 t14105 _ A4.out).mono ?_); rintro e w11 ⟨rfl, hb⟩; refine ⟨_, rfl, ?_⟩; have n0_ := Aside0.mk (blk_below (g := gb14101) (o := .cells #[.int .u32 a0_0, .int .i64 a0_1] 44 (0, 0)) (by (with_reducible repeat (first | refine blk_drewN ?_ _ | refine blk_drew ?_ | refine blk_alloc ?_ _)); exact BK14101.out) hb); have n1_ := Aside0.mk (below_step (by repeat (first | (with_reducible first | exact HB.out | apply below_alloc | apply pw_below_drewN | apply below_drew1 | refine below_set ?_ GE14101.out) | exact HB.out)) hb); clear BK14101; clear HB; have BK14101 := n0_; have HB := n1_; clear n0_ n1_; (try clear hb); (try clear hb2); (try clear hk); (try clear hi)) | ((with_reducible refine gate_callee (f := 58) rfl ?_); refine goesL_ (some 29) rfl rfl Tryd.func58 (by kernel_rfl) rfl #[.string t14102] rfl (by (try simp only [List.map_toArray, List.map_cons, List.map_nil]); first | done | rfl | (simp only [List.length_drop, List.length_take]; rfl)) ?_; (with_reducible refine (names_OfPool.calls k t14102 t14106 t14107 t14108 _ A5.out).mono ?_); rintro e w12 ⟨rfl, hb⟩; refine ⟨_, rfl, ?_⟩; have n0_ := Aside0.mk (blk_below (g := gb14101) (o := .cells #[.int .u32 a0_0, .int .i64 a0_1] 44 (0, 0)) (by (with_reducible repeat (first | refine blk_drewN ?_ _ | refine blk_drew ?_ | refine blk_alloc ?_ _)); exact BK14101.out) hb); have n1_ := Aside0.mk (below_step (by repeat (first | (with_reducible first | exact HB.out | apply below_alloc | apply pw_below_drewN | apply below_drew1 | refine below_set ?_ GE14101.out) | exact HB.out)) hb); clear BK14101; clear HB; have BK14101 := n0_; have HB := n1_; clear n0_ n1_; (try clear hb); (try clear hb2); (try clear hk); (try clear hi)) | ((with_reducible refine gate_dst (N := 9) rfl ?_); refine box_event ?hg (N := 9) ?hd (cs := #[.int .u32 0, .int .i64 0]) (t := 46) ?hr ?_; (case hd => rfl); (case hg => rfl); (case hr => first | (go_simp; done) | (go_simp; rfl)); intro gb14109 hg w13 hbox hb; have n0_ := Aside0.mk (blk_below (g := gb14101) (o := .cells #[.int .u32 a0_0, .int .i64 a0_1] 44 (0, 0)) (by (with_reducible repeat (first | refine blk_drewN ?_ _ | refine blk_drew ?_ | refine blk_alloc ?_ _)); exact BK14101.out) hb); have n1_ := Aside0.mk (below_step (by repeat (first | (with_reducible first | exact HB.out | apply below_alloc | apply pw_below_drewN | apply below_drew1 | refine below_set ?_ GE14101.out) | exact HB.out)) hb); have n2_ := Aside0.mk (hbox); have n3_ := Aside0.mk ((by rw [hg]; exact (below_size (by repeat (first | (with_reducible first | exact HB.out | apply below_alloc | apply pw_below_drewN | apply below_drew1 | refine below_set ?_ GE14101.out) | exact HB.out))) : w.heap.size ≤ gb14109)); have n4_ := Aside0.mk ((by rw [hg]; exact (below_size (by repeat (first | (with_reducible first | exact HB.out | apply below_alloc | apply pw_below_drewN | apply below_drew1 | refine below_set ?_ GE14101.out) | exact HB.out))) : w.heap.size ≤ gb14109)); have n5_ := Aside0.mk ((by rw [hg]; exact Nat.ne_of_lt (blk_lt (g := gb14101) (o := .cells #[.int .u32 a0_0, .int .i64 a0_1] 44 (0, 0)) (by (with_reducible repeat (first | refine blk_drewN ?_ _ | refine blk_drew ?_ | refine blk_alloc ?_ _)); exact BK14101.out)) : gb14101 ≠ gb14109)); have n6_ := Aside0.mk ((by rw [hg]; exact Nat.ne_of_gt (blk_lt (g := gb14101) (o := .cells #[.int .u32 a0_0, .int .i64 a0_1] 44 (0, 0)) (by (with_reducible repeat (first | refine blk_drewN ?_ _ | refine blk_drew ?_ | refine blk_alloc ?_ _)); exact BK14101.out)) : gb14109 ≠ gb14101)); clear BK14101; clear HB; have BK14101 := n0_; have HB := n1_; have BK14109 := n2_; have GW14109 := n3_; have GE14109 := n4_; have NB14101_14109 := n5_; have NB14109_14101 := n6_; clear n0_ n1_ n2_ n3_ n4_ n5_ n6_; clear hb hbox hg; have hnb14 := NB14109_14101.out; have hnc14 := NB14101_14109.out; have hcz15_0 : w13.cell? ⟨gb14109, 0, none⟩ = some (.int .u32 0) := (blk_cell BK14109.out 0).trans rfl; have hcz15_1 : w13.cell? ⟨gb14109, 1, none⟩ = some (.int .i64 0) := (blk_cell BK14109.out 1).trans rfl; have hfz15_0 := blk_frozen BK14109.out 0; have hfz15_1 := blk_frozen BK14109.out 1))
  (try simp only [Act.put, List.setIfInBounds_toArray, List.set_cons_zero, List.set_cons_succ])
  go_cut [65] (fun v65 wc => ∃ (kq : Nat) (x65_5 : Bool), v65 = .bool x65_5 ∧ Aside0 (virgatelaw12_NamesNets.j0 kq a1 x65_5 = some r) ∧ Aside0 (kq ≤ k) ∧ Aside0 (wc.heap[gb14101]? = some (.cells #[.int .u32 a0_0, .int .i64 a0_1] 44 (0, 0))) ∧ Aside0 (wc.heap[gb14109]? = some (.cells #[.int .u32 t14106, .int .i64 t14107] 46 (0, 0))) ∧ Aside0 (Below w.heap.size w wc))
  case first =>
    have H := HC6.out
    clear HC6
    by_cases c16 : ((t14103 == 0) != t14105) = true
    · rw [if_pos c16] at H
      have c16b0 : ((t14103 == 0) != t14105) = true := c16
      (try (have c16b1 : decide ((t14103 == 0) = t14105) = false := by simpa using c16))
      (try (have c16b2 : ((t14103 == 0) == t14105) = false := by simpa using c16))
      (try (have c16b3 : ¬ ((t14103 == 0) = t14105) := by simpa using c16))
      clear c16
      (first | rw [c16b0] | (simp only [i64_w, i32_w]; rw [c16b0]) | skip)
      have H' := Aside0.mk H
      clear H
      go_wp2
      go_meet
      case rel => exact ⟨_, (true), (by first | rfl | (simp; done) | (simp [*]; done)), H', ⟨by first | omega | exact Nat.le_refl _⟩, ⟨by (with_reducible repeat (first | refine blk_drewN ?_ _ | refine blk_drew ?_ | refine blk_alloc ?_ _)); refine blk_far ?_ NB14101_14109.out _; (with_reducible repeat (first | refine blk_drewN ?_ _ | refine blk_drew ?_ | refine blk_alloc ?_ _)); refine blk_far ?_ NB14101_14109.out _; (with_reducible repeat (first | refine blk_drewN ?_ _ | refine blk_drew ?_ | refine blk_alloc ?_ _)); exact BK14101.out⟩, ⟨by (with_reducible repeat (first | refine blk_drewN ?_ _ | refine blk_drew ?_ | refine blk_alloc ?_ _)); refine blk_put (cs := #[.int .u32 t14106, .int .i64 0]) ?_ 1 _ rfl; (with_reducible repeat (first | refine blk_drewN ?_ _ | refine blk_drew ?_ | refine blk_alloc ?_ _)); refine blk_put (cs := #[.int .u32 0, .int .i64 0]) ?_ 0 _ rfl; (with_reducible repeat (first | refine blk_drewN ?_ _ | refine blk_drew ?_ | refine blk_alloc ?_ _)); exact BK14109.out⟩, ⟨by repeat (first | (with_reducible first | exact HB.out | apply below_alloc | apply pw_below_drewN | apply below_drew1 | refine below_set ?_ GE14101.out | refine below_set ?_ GE14109.out) | exact HB.out)⟩⟩
    · rw [if_neg c16] at H
      have c16b0 : ((t14103 == 0) != t14105) = false := by simpa using c16
      (try (have c16b1 : decide ((t14103 == 0) = t14105) = true := by simpa using c16))
      (try (have c16b2 : ((t14103 == 0) == t14105) = true := by simpa using c16))
      clear c16
      (first | rw [c16b0] | (simp only [i64_w, i32_w]; rw [c16b0]) | skip)
      by_cases c17 : t14105 = true
      · subst c17
        have H1 : (if t14102.toList = t14104.toList then (if (t14108 != true) = true then (virgatelaw12_NamesNets.j0 k a1 true) else (virgatelaw12_NamesNets.j0 k a1 (!(t14106 == a0_0) || (!(t14107 == a0_1))))) else (virgatelaw12_NamesNets.j0 k a1 true)) = some r := by rw [if_pos rfl] at H; exact H
        clear H
        have H := H1
        clear H1
        by_cases c18 : t14102.toList = t14104.toList
        · rw [if_pos c18] at H
          have c18b0 : (t14102.toList == t14104.toList) = true := beq_iff_eq.mpr c18
          have c18b1 : (t14102.toList != t14104.toList) = false := bne_eq_false_iff_eq.mpr c18
          clear c18
          by_cases c19 : (t14108 != true) = true
          · rw [if_pos c19] at H
            have c19b0 : (t14108 != true) = true := c19
            (try (have c19b1 : decide (t14108 = true) = false := by simpa using c19))
            (try (have c19b2 : (t14108 == true) = false := by simpa using c19))
            (try (have c19b3 : ¬ (t14108 = true) := by simpa using c19))
            clear c19
            have H' := Aside0.mk H
            clear H
            go_wp2
            go_meet
            case rel => exact ⟨_, (true), (by first | rfl | (simp; done) | (simp [*]; done)), H', ⟨by first | omega | exact Nat.le_refl _⟩, ⟨by (with_reducible repeat (first | refine blk_drewN ?_ _ | refine blk_drew ?_ | refine blk_alloc ?_ _)); refine blk_far ?_ NB14101_14109.out _; (with_reducible repeat (first | refine blk_drewN ?_ _ | refine blk_drew ?_ | refine blk_alloc ?_ _)); refine blk_far ?_ NB14101_14109.out _; (with_reducible repeat (first | refine blk_drewN ?_ _ | refine blk_drew ?_ | refine blk_alloc ?_ _)); exact BK14101.out⟩, ⟨by (with_reducible repeat (first | refine blk_drewN ?_ _ | refine blk_drew ?_ | refine blk_alloc ?_ _)); refine blk_put (cs := #[.int .u32 t14106, .int .i64 0]) ?_ 1 _ rfl; (with_reducible repeat (first | refine blk_drewN ?_ _ | refine blk_drew ?_ | refine blk_alloc ?_ _)); refine blk_put (cs := #[.int .u32 0, .int .i64 0]) ?_ 0 _ rfl; (with_reducible repeat (first | refine blk_drewN ?_ _ | refine blk_drew ?_ | refine blk_alloc ?_ _)); exact BK14109.out⟩, ⟨by repeat (first | (with_reducible first | exact HB.out | apply below_alloc | apply pw_below_drewN | apply below_drew1 | refine below_set ?_ GE14101.out | refine below_set ?_ GE14109.out) | exact HB.out)⟩⟩
          · rw [if_neg c19] at H
            have c19b0 : (t14108 != true) = false := by simpa using c19
            (try (have c19b1 : decide (t14108 = true) = true := by simpa using c19))
            (try (have c19b2 : (t14108 == true) = true := by simpa using c19))
            clear c19
            have H' := Aside0.mk H
            clear H
            have hnb20 := NB14109_14101.out
            have hnc20 := NB14101_14109.out
            have hcz21_0 : w13.cell? ⟨gb14109, 0, none⟩ = some (.int .u32 0) := (blk_cell BK14109.out 0).trans rfl
            have hcz21_1 : w13.cell? ⟨gb14109, 1, none⟩ = some (.int .i64 0) := (blk_cell BK14109.out 1).trans rfl
            have hfz21_0 := blk_frozen BK14109.out 0
            have hfz21_1 := blk_frozen BK14109.out 1
            have hcz22_0 : w13.cell? ⟨gb14101, 0, none⟩ = some (.int .u32 a0_0) := (blk_cell BK14101.out 0).trans rfl
            have hcz22_1 : w13.cell? ⟨gb14101, 1, none⟩ = some (.int .i64 a0_1) := (blk_cell BK14101.out 1).trans rfl
            have hfz22_0 := blk_frozen BK14101.out 0
            have hfz22_1 := blk_frozen BK14101.out 1
            go_wp2
            go_meet
            case rel => exact ⟨_, ((!(t14106 == a0_0) || (!(t14107 == a0_1)))), (by first | rfl | (simp; done) | (simp [*]; done)), H', ⟨by first | omega | exact Nat.le_refl _⟩, ⟨by (with_reducible repeat (first | refine blk_drewN ?_ _ | refine blk_drew ?_ | refine blk_alloc ?_ _)); refine blk_far ?_ NB14101_14109.out _; (with_reducible repeat (first | refine blk_drewN ?_ _ | refine blk_drew ?_ | refine blk_alloc ?_ _)); refine blk_far ?_ NB14101_14109.out _; (with_reducible repeat (first | refine blk_drewN ?_ _ | refine blk_drew ?_ | refine blk_alloc ?_ _)); exact BK14101.out⟩, ⟨by (with_reducible repeat (first | refine blk_drewN ?_ _ | refine blk_drew ?_ | refine blk_alloc ?_ _)); refine blk_put (cs := #[.int .u32 t14106, .int .i64 0]) ?_ 1 _ rfl; (with_reducible repeat (first | refine blk_drewN ?_ _ | refine blk_drew ?_ | refine blk_alloc ?_ _)); refine blk_put (cs := #[.int .u32 0, .int .i64 0]) ?_ 0 _ rfl; (with_reducible repeat (first | refine blk_drewN ?_ _ | refine blk_drew ?_ | refine blk_alloc ?_ _)); exact BK14109.out⟩, ⟨by repeat (first | (with_reducible first | exact HB.out | apply below_alloc | apply pw_below_drewN | apply below_drew1 | refine below_set ?_ GE14101.out | refine below_set ?_ GE14109.out) | exact HB.out)⟩⟩
        · rw [if_neg c18] at H
          have c18b0 : (t14102.toList == t14104.toList) = false := beq_eq_false_iff_ne.mpr c18
          have c18b1 : (t14102.toList != t14104.toList) = true := bne_iff_ne.mpr c18
          have H' := Aside0.mk H
          clear H
          go_wp2
          go_meet
          case rel => exact ⟨_, (true), (by first | rfl | (simp; done) | (simp [*]; done)), H', ⟨by first | omega | exact Nat.le_refl _⟩, ⟨by (with_reducible repeat (first | refine blk_drewN ?_ _ | refine blk_drew ?_ | refine blk_alloc ?_ _)); refine blk_far ?_ NB14101_14109.out _; (with_reducible repeat (first | refine blk_drewN ?_ _ | refine blk_drew ?_ | refine blk_alloc ?_ _)); refine blk_far ?_ NB14101_14109.out _; (with_reducible repeat (first | refine blk_drewN ?_ _ | refine blk_drew ?_ | refine blk_alloc ?_ _)); exact BK14101.out⟩, ⟨by (with_reducible repeat (first | refine blk_drewN ?_ _ | refine blk_drew ?_ | refine blk_alloc ?_ _)); refine blk_put (cs := #[.int .u32 t14106, .int .i64 0]) ?_ 1 _ rfl; (with_reducible repeat (first | refine blk_drewN ?_ _ | refine blk_drew ?_ | refine blk_alloc ?_ _)); refine blk_put (cs := #[.int .u32 0, .int .i64 0]) ?_ 0 _ rfl; (with_reducible repeat (first | refine blk_drewN ?_ _ | refine blk_drew ?_ | refine blk_alloc ?_ _)); exact BK14109.out⟩, ⟨by repeat (first | (with_reducible first | exact HB.out | apply below_alloc | apply pw_below_drewN | apply below_drew1 | refine below_set ?_ GE14101.out | refine below_set ?_ GE14109.out) | exact HB.out)⟩⟩
      · replace c17 := Bool.eq_false_iff.mpr c17
        subst c17
        have H1 : (if t14103 = 1 then (if t14102.toList = t14104.toList then (if (t14108 != false) = true then (virgatelaw12_NamesNets.j0 k a1 true) else (virgatelaw12_NamesNets.j0 k a1 false)) else (virgatelaw12_NamesNets.j0 k a1 true)) else (virgatelaw12_NamesNets.j0 k a1 true)) = some r := by rw [if_neg (show ¬ (false = true) by decide)] at H; exact H
        clear H
        have H := H1
        clear H1
        by_cases c23 : t14103 = 1
        · rw [if_pos c23] at H
          have c23b0 : (t14103 == 1) = true := beq_iff_eq.mpr c23
          have c23b1 : (t14103 != 1) = false := bne_eq_false_iff_eq.mpr c23
          clear c23
          by_cases c24 : t14102.toList = t14104.toList
          · rw [if_pos c24] at H
            have c24b0 : (t14102.toList == t14104.toList) = true := beq_iff_eq.mpr c24
            have c24b1 : (t14102.toList != t14104.toList) = false := bne_eq_false_iff_eq.mpr c24
            clear c24
            by_cases c25 : (t14108 != false) = true
            · rw [if_pos c25] at H
              have c25b0 : (t14108 != false) = true := c25
              (try (have c25b1 : decide (t14108 = false) = false := by simpa using c25))
              (try (have c25b2 : (t14108 == false) = false := by simpa using c25))
              (try (have c25b3 : ¬ (t14108 = false) := by simpa using c25))
              clear c25
              have H' := Aside0.mk H
              clear H
              go_wp2
              go_meet
              case rel => exact ⟨_, (true), (by first | rfl | (simp; done) | (simp [*]; done)), H', ⟨by first | omega | exact Nat.le_refl _⟩, ⟨by (with_reducible repeat (first | refine blk_drewN ?_ _ | refine blk_drew ?_ | refine blk_alloc ?_ _)); refine blk_far ?_ NB14101_14109.out _; (with_reducible repeat (first | refine blk_drewN ?_ _ | refine blk_drew ?_ | refine blk_alloc ?_ _)); refine blk_far ?_ NB14101_14109.out _; (with_reducible repeat (first | refine blk_drewN ?_ _ | refine blk_drew ?_ | refine blk_alloc ?_ _)); exact BK14101.out⟩, ⟨by (with_reducible repeat (first | refine blk_drewN ?_ _ | refine blk_drew ?_ | refine blk_alloc ?_ _)); refine blk_put (cs := #[.int .u32 t14106, .int .i64 0]) ?_ 1 _ rfl; (with_reducible repeat (first | refine blk_drewN ?_ _ | refine blk_drew ?_ | refine blk_alloc ?_ _)); refine blk_put (cs := #[.int .u32 0, .int .i64 0]) ?_ 0 _ rfl; (with_reducible repeat (first | refine blk_drewN ?_ _ | refine blk_drew ?_ | refine blk_alloc ?_ _)); exact BK14109.out⟩, ⟨by repeat (first | (with_reducible first | exact HB.out | apply below_alloc | apply pw_below_drewN | apply below_drew1 | refine below_set ?_ GE14101.out | refine below_set ?_ GE14109.out) | exact HB.out)⟩⟩
            · rw [if_neg c25] at H
              have c25b0 : (t14108 != false) = false := by simpa using c25
              (try (have c25b1 : decide (t14108 = false) = true := by simpa using c25))
              (try (have c25b2 : (t14108 == false) = true := by simpa using c25))
              clear c25
              have H' := Aside0.mk H
              clear H
              go_wp2
              go_meet
              case rel => exact ⟨_, (false), (by first | rfl | (simp; done) | (simp [*]; done)), H', ⟨by first | omega | exact Nat.le_refl _⟩, ⟨by (with_reducible repeat (first | refine blk_drewN ?_ _ | refine blk_drew ?_ | refine blk_alloc ?_ _)); refine blk_far ?_ NB14101_14109.out _; (with_reducible repeat (first | refine blk_drewN ?_ _ | refine blk_drew ?_ | refine blk_alloc ?_ _)); refine blk_far ?_ NB14101_14109.out _; (with_reducible repeat (first | refine blk_drewN ?_ _ | refine blk_drew ?_ | refine blk_alloc ?_ _)); exact BK14101.out⟩, ⟨by (with_reducible repeat (first | refine blk_drewN ?_ _ | refine blk_drew ?_ | refine blk_alloc ?_ _)); refine blk_put (cs := #[.int .u32 t14106, .int .i64 0]) ?_ 1 _ rfl; (with_reducible repeat (first | refine blk_drewN ?_ _ | refine blk_drew ?_ | refine blk_alloc ?_ _)); refine blk_put (cs := #[.int .u32 0, .int .i64 0]) ?_ 0 _ rfl; (with_reducible repeat (first | refine blk_drewN ?_ _ | refine blk_drew ?_ | refine blk_alloc ?_ _)); exact BK14109.out⟩, ⟨by repeat (first | (with_reducible first | exact HB.out | apply below_alloc | apply pw_below_drewN | apply below_drew1 | refine below_set ?_ GE14101.out | refine below_set ?_ GE14109.out) | exact HB.out)⟩⟩
          · rw [if_neg c24] at H
            have c24b0 : (t14102.toList == t14104.toList) = false := beq_eq_false_iff_ne.mpr c24
            have c24b1 : (t14102.toList != t14104.toList) = true := bne_iff_ne.mpr c24
            have H' := Aside0.mk H
            clear H
            go_wp2
            go_meet
            case rel => exact ⟨_, (true), (by first | rfl | (simp; done) | (simp [*]; done)), H', ⟨by first | omega | exact Nat.le_refl _⟩, ⟨by (with_reducible repeat (first | refine blk_drewN ?_ _ | refine blk_drew ?_ | refine blk_alloc ?_ _)); refine blk_far ?_ NB14101_14109.out _; (with_reducible repeat (first | refine blk_drewN ?_ _ | refine blk_drew ?_ | refine blk_alloc ?_ _)); refine blk_far ?_ NB14101_14109.out _; (with_reducible repeat (first | refine blk_drewN ?_ _ | refine blk_drew ?_ | refine blk_alloc ?_ _)); exact BK14101.out⟩, ⟨by (with_reducible repeat (first | refine blk_drewN ?_ _ | refine blk_drew ?_ | refine blk_alloc ?_ _)); refine blk_put (cs := #[.int .u32 t14106, .int .i64 0]) ?_ 1 _ rfl; (with_reducible repeat (first | refine blk_drewN ?_ _ | refine blk_drew ?_ | refine blk_alloc ?_ _)); refine blk_put (cs := #[.int .u32 0, .int .i64 0]) ?_ 0 _ rfl; (with_reducible repeat (first | refine blk_drewN ?_ _ | refine blk_drew ?_ | refine blk_alloc ?_ _)); exact BK14109.out⟩, ⟨by repeat (first | (with_reducible first | exact HB.out | apply below_alloc | apply pw_below_drewN | apply below_drew1 | refine below_set ?_ GE14101.out | refine below_set ?_ GE14109.out) | exact HB.out)⟩⟩
        · rw [if_neg c23] at H
          have c23b0 : (t14103 == 1) = false := beq_eq_false_iff_ne.mpr c23
          have c23b1 : (t14103 != 1) = true := bne_iff_ne.mpr c23
          have H' := Aside0.mk H
          clear H
          go_wp2
          go_meet
          case rel => exact ⟨_, (true), (by first | rfl | (simp; done) | (simp [*]; done)), H', ⟨by first | omega | exact Nat.le_refl _⟩, ⟨by (with_reducible repeat (first | refine blk_drewN ?_ _ | refine blk_drew ?_ | refine blk_alloc ?_ _)); refine blk_far ?_ NB14101_14109.out _; (with_reducible repeat (first | refine blk_drewN ?_ _ | refine blk_drew ?_ | refine blk_alloc ?_ _)); refine blk_far ?_ NB14101_14109.out _; (with_reducible repeat (first | refine blk_drewN ?_ _ | refine blk_drew ?_ | refine blk_alloc ?_ _)); exact BK14101.out⟩, ⟨by (with_reducible repeat (first | refine blk_drewN ?_ _ | refine blk_drew ?_ | refine blk_alloc ?_ _)); refine blk_put (cs := #[.int .u32 t14106, .int .i64 0]) ?_ 1 _ rfl; (with_reducible repeat (first | refine blk_drewN ?_ _ | refine blk_drew ?_ | refine blk_alloc ?_ _)); refine blk_put (cs := #[.int .u32 0, .int .i64 0]) ?_ 0 _ rfl; (with_reducible repeat (first | refine blk_drewN ?_ _ | refine blk_drew ?_ | refine blk_alloc ?_ _)); exact BK14109.out⟩, ⟨by repeat (first | (with_reducible first | exact HB.out | apply below_alloc | apply pw_below_drewN | apply below_drew1 | refine below_set ?_ GE14101.out | refine below_set ?_ GE14109.out) | exact HB.out)⟩⟩
  case rest =>
    clear HC6
    try clear c1
    try clear c2
    try clear p2
    try clear c5
    try clear c14
    try clear c16
    try clear c16b0
    try clear c16b1
    try clear c16b2
    try clear c17
    try clear c18
    try clear c18b0
    try clear c18b1
    try clear c19
    try clear c19b0
    try clear c19b1
    try clear c19b2
    try clear c20
    try clear c23
    try clear c23b0
    try clear c23b1
    try clear c24
    try clear c24b0
    try clear c24b1
    try clear c25
    try clear c25b0
    try clear c25b1
    try clear c25b2
    try clear hcz10_0
    try clear hcz10_1
    try clear hcz15_0
    try clear hcz15_1
    try clear hcz21_0
    try clear hcz21_1
    try clear hcz22_0
    try clear hcz22_1
    try clear hcz8_0
    try clear hcz8_1
    try clear hfz10_0
    try clear hfz10_1
    try clear hfz15_0
    try clear hfz15_1
    try clear hfz21_0
    try clear hfz21_1
    try clear hfz22_0
    try clear hfz22_1
    try clear hfz8_0
    try clear hfz8_1
    obtain ⟨kq, x65_5, rfl, HA, HJ5, BK14101, BK14109, HB⟩ := hcut
    cases kq with
    | zero => exact absurd HA.out (by simp [virgatelaw12_NamesNets.j0])
    | succ kj5 =>
      have H := HA.out
      clear HA
      simp only [virgatelaw12_NamesNets.j0] at H
      by_cases c26 : x65_5 = true
      · subst c26
        have H1 : (some false) = some r := by rw [if_pos rfl] at H; exact H
        clear H
        have H := H1
        clear H1
        obtain rfl := Option.some.inj H
        go_wp2
        go_ret
        exact ⟨by first | rfl | (simp [errW_none, errW_some] <;> rfl) | (simp [*, errW_none, errW_some] <;> rfl), by repeat (first | (with_reducible first | exact HB.out | apply below_alloc | apply pw_below_drewN | apply below_drew1 | refine below_set ?_ GE14101.out | refine below_set ?_ GE14109.out) | exact HB.out)⟩
      · replace c26 := Bool.eq_false_iff.mpr c26
        subst c26
        have H1 : ((names_Block.f kj5 a1).bind fun t14110 => ((names_OfBlock.f kj5 t14110).bind fun bt14111 => ((names_Block.f kj5 a1).bind fun t14113 => ((virgateref12_Block.f kj5 a1).bind fun t14114 => (if t14113.toList = t14114.toList then (if bt14111.2 = true then ((virgateref12_First.f a1).bind fun t14115 => (if bt14111.1 = t14115 then ((virgatelaw12_awake.f kj5).bind fun t14116 => (some t14116)) else (some false))) else (some false)) else (some false)))))) = some r := by rw [if_neg (show ¬ (false = true) by decide)] at H; exact H
        clear H
        have H := H1
        clear H1
        replace H := Option.bind_eq_some_iff.mp H
        obtain ⟨t14110, A270, H⟩ := H
        replace H : ((names_OfBlock.f kj5 t14110).bind fun bt14111 => ((names_Block.f kj5 a1).bind fun t14113 => ((virgateref12_Block.f kj5 a1).bind fun t14114 => (if t14113.toList = t14114.toList then (if bt14111.2 = true then ((virgateref12_First.f a1).bind fun t14115 => (if bt14111.1 = t14115 then ((virgatelaw12_awake.f kj5).bind fun t14116 => (some t14116)) else (some false))) else (some false)) else (some false))))) = some r := H
        have A27 := Aside0.mk A270
        clear A270
        replace H := Option.bind_eq_some_iff.mp H
        obtain ⟨⟨t14111, t14112⟩, A280, H⟩ := H
        replace H : ((names_Block.f kj5 a1).bind fun t14113 => ((virgateref12_Block.f kj5 a1).bind fun t14114 => (if t14113.toList = t14114.toList then (if t14112 = true then ((virgateref12_First.f a1).bind fun t14115 => (if t14111 = t14115 then ((virgatelaw12_awake.f kj5).bind fun t14116 => (some t14116)) else (some false))) else (some false)) else (some false)))) = some r := H
        have A28 := Aside0.mk A280
        clear A280
        replace H := Option.bind_eq_some_iff.mp H
        obtain ⟨t14113, A290, H⟩ := H
        replace H : ((virgateref12_Block.f kj5 a1).bind fun t14114 => (if t14113.toList = t14114.toList then (if t14112 = true then ((virgateref12_First.f a1).bind fun t14115 => (if t14111 = t14115 then ((virgatelaw12_awake.f kj5).bind fun t14116 => (some t14116)) else (some false))) else (some false)) else (some false))) = some r := H
        have A29 := Aside0.mk A290
        clear A290
        replace H := Option.bind_eq_some_iff.mp H
        obtain ⟨t14114, A300, H⟩ := H
        replace H : (if t14113.toList = t14114.toList then (if t14112 = true then ((virgateref12_First.f a1).bind fun t14115 => (if t14111 = t14115 then ((virgatelaw12_awake.f kj5).bind fun t14116 => (some t14116)) else (some false))) else (some false)) else (some false)) = some r := H
        have A30 := Aside0.mk A300
        clear A300
        by_cases c31 : t14113.toList = t14114.toList
        · rw [if_pos c31] at H
          have c31b0 : (t14113.toList == t14114.toList) = true := beq_iff_eq.mpr c31
          have c31b1 : (t14113.toList != t14114.toList) = false := bne_eq_false_iff_eq.mpr c31
          clear c31
          by_cases c32 : t14112 = true
          · subst c32
            have H1 : ((virgateref12_First.f a1).bind fun t14115 => (if t14111 = t14115 then ((virgatelaw12_awake.f kj5).bind fun t14116 => (some t14116)) else (some false))) = some r := by rw [if_pos rfl] at H; exact H
            clear H
            have H := H1
            clear H1
            replace H := Option.bind_eq_some_iff.mp H
            obtain ⟨t14115, A330, H⟩ := H
            replace H : (if t14111 = t14115 then ((virgatelaw12_awake.f kj5).bind fun t14116 => (some t14116)) else (some false)) = some r := H
            have A33 := Aside0.mk A330
            clear A330
            by_cases c34 : t14111 = t14115
            · rw [if_pos c34] at H
              have c34b0 : (t14111 == t14115) = true := beq_iff_eq.mpr c34
              have c34b1 : (t14111 != t14115) = false := bne_eq_false_iff_eq.mpr c34
              clear c34
              replace H := Option.bind_eq_some_iff.mp H
              obtain ⟨t14116, A350, H⟩ := H
              replace H : (some t14116) = some r := H
              have A35 := Aside0.mk A350
              clear A350
              obtain rfl := Option.some.inj H
              go_wp2_with (first | ((with_reducible refine gate_callee (f := 60) rfl ?_); refine goesL_ (some 68) rfl rfl Tryd.func60 (by kernel_rfl) rfl #[.int .u32 a1] rfl (by (try simp only [List.map_toArray, List.map_cons, List.map_nil]); first | done | rfl | (simp only [List.length_drop, List.length_take]; rfl)) ?_; (with_reducible refine (names_Block.calls kj5 a1 t14110 _ A27.out).mono ?_); rintro e w36 ⟨rfl, hb⟩; refine ⟨_, rfl, ?_⟩; have n0_ := Aside0.mk (blk_below (g := gb14101) (o := .cells #[.int .u32 a0_0, .int .i64 a0_1] 44 (0, 0)) (by (with_reducible repeat (first | refine blk_drewN ?_ _ | refine blk_drew ?_ | refine blk_alloc ?_ _)); exact BK14101.out) hb); have n1_ := Aside0.mk (blk_below (g := gb14109) (o := .cells #[.int .u32 t14106, .int .i64 t14107] 46 (0, 0)) (by (with_reducible repeat (first | refine blk_drewN ?_ _ | refine blk_drew ?_ | refine blk_alloc ?_ _)); exact BK14109.out) hb); have n2_ := Aside0.mk (below_step (by repeat (first | (with_reducible first | exact HB.out | apply below_alloc | apply pw_below_drewN | apply below_drew1 | refine below_set ?_ GE14101.out | refine below_set ?_ GE14109.out) | exact HB.out)) hb); clear BK14101; clear BK14109; clear HB; have BK14101 := n0_; have BK14109 := n1_; have HB := n2_; clear n0_ n1_ n2_; (try clear hb); (try clear hb2); (try clear hk); (try clear hi)) | ((with_reducible refine gate_callee (f := 59) rfl ?_); refine goesL_ (some 69) rfl rfl Tryd.func59 (by kernel_rfl) rfl #[.string t14110] rfl (by (try simp only [List.map_toArray, List.map_cons, List.map_nil]); first | done | rfl | (simp only [List.length_drop, List.length_take]; rfl)) ?_; (with_reducible refine (names_OfBlock.calls kj5 t14110 t14111 true _ A28.out).mono ?_); rintro e w37 ⟨rfl, hb⟩; refine ⟨_, rfl, ?_⟩; have n0_ := Aside0.mk (blk_below (g := gb14101) (o := .cells #[.int .u32 a0_0, .int .i64 a0_1] 44 (0, 0)) (by (with_reducible repeat (first | refine blk_drewN ?_ _ | refine blk_drew ?_ | refine blk_alloc ?_ _)); exact BK14101.out) hb); have n1_ := Aside0.mk (blk_below (g := gb14109) (o := .cells #[.int .u32 t14106, .int .i64 t14107] 46 (0, 0)) (by (with_reducible repeat (first | refine blk_drewN ?_ _ | refine blk_drew ?_ | refine blk_alloc ?_ _)); exact BK14109.out) hb); have n2_ := Aside0.mk (below_step (by repeat (first | (with_reducible first | exact HB.out | apply below_alloc | apply pw_below_drewN | apply below_drew1 | refine below_set ?_ GE14101.out | refine below_set ?_ GE14109.out) | exact HB.out)) hb); clear BK14101; clear BK14109; clear HB; have BK14101 := n0_; have BK14109 := n1_; have HB := n2_; clear n0_ n1_ n2_; (try clear hb); (try clear hb2); (try clear hk); (try clear hi)) | ((with_reducible refine gate_callee (f := 60) rfl ?_); refine goesL_ (some 73) rfl rfl Tryd.func60 (by kernel_rfl) rfl #[.int .u32 a1] rfl (by (try simp only [List.map_toArray, List.map_cons, List.map_nil]); first | done | rfl | (simp only [List.length_drop, List.length_take]; rfl)) ?_; (with_reducible refine (names_Block.calls kj5 a1 t14113 _ A29.out).mono ?_); rintro e w38 ⟨rfl, hb⟩; refine ⟨_, rfl, ?_⟩; have n0_ := Aside0.mk (blk_below (g := gb14101) (o := .cells #[.int .u32 a0_0, .int .i64 a0_1] 44 (0, 0)) (by (with_reducible repeat (first | refine blk_drewN ?_ _ | refine blk_drew ?_ | refine blk_alloc ?_ _)); exact BK14101.out) hb); have n1_ := Aside0.mk (blk_below (g := gb14109) (o := .cells #[.int .u32 t14106, .int .i64 t14107] 46 (0, 0)) (by (with_reducible repeat (first | refine blk_drewN ?_ _ | refine blk_drew ?_ | refine blk_alloc ?_ _)); exact BK14109.out) hb); have n2_ := Aside0.mk (below_step (by repeat (first | (with_reducible first | exact HB.out | apply below_alloc | apply pw_below_drewN | apply below_drew1 | refine below_set ?_ GE14101.out | refine below_set ?_ GE14109.out) | exact HB.out)) hb); clear BK14101; clear BK14109; clear HB; have BK14101 := n0_; have BK14109 := n1_; have HB := n2_; clear n0_ n1_ n2_; (try clear hb); (try clear hb2); (try clear hk); (try clear hi)) | ((with_reducible refine gate_callee (f := 61) rfl ?_); refine goesL_ (some 75) rfl rfl Tryd.func61 (by kernel_rfl) rfl #[.int .u32 a1] rfl (by (try simp only [List.map_toArray, List.map_cons, List.map_nil]); first | done | rfl | (simp only [List.length_drop, List.length_take]; rfl)) ?_; (with_reducible refine (virgateref12_Block.calls kj5 a1 t14114 _ A30.out).mono ?_); rintro e w39 ⟨rfl, hb⟩; refine ⟨_, rfl, ?_⟩; have n0_ := Aside0.mk (blk_below (g := gb14101) (o := .cells #[.int .u32 a0_0, .int .i64 a0_1] 44 (0, 0)) (by (with_reducible repeat (first | refine blk_drewN ?_ _ | refine blk_drew ?_ | refine blk_alloc ?_ _)); exact BK14101.out) hb); have n1_ := Aside0.mk (blk_below (g := gb14109) (o := .cells #[.int .u32 t14106, .int .i64 t14107] 46 (0, 0)) (by (with_reducible repeat (first | refine blk_drewN ?_ _ | refine blk_drew ?_ | refine blk_alloc ?_ _)); exact BK14109.out) hb); have n2_ := Aside0.mk (below_step (by repeat (first | (with_reducible first | exact HB.out | apply below_alloc | apply pw_below_drewN | apply below_drew1 | refine below_set ?_ GE14101.out | refine below_set ?_ GE14109.out) | exact HB.out)) hb); clear BK14101; clear BK14109; clear HB; have BK14101 := n0_; have BK14109 := n1_; have HB := n2_; clear n0_ n1_ n2_; (try clear hb); (try clear hb2); (try clear hk); (try clear hi)) | (go_at_call 62; (with_reducible refine (virgateref12_First.calls a1 t14115 _ A33.out).mono ?_); rintro e w' ⟨rfl, ⟨nd, rfl⟩⟩) | (go_at_call 63; (with_reducible refine (virgatelaw12_awake.calls kj5  t14116 _ A35.out).mono ?_); rintro e w40 ⟨rfl, hb⟩; have n0_ := Aside0.mk (blk_below (g := gb14101) (o := .cells #[.int .u32 a0_0, .int .i64 a0_1] 44 (0, 0)) (by (with_reducible repeat (first | refine blk_drewN ?_ _ | refine blk_drew ?_ | refine blk_alloc ?_ _)); exact BK14101.out) hb); have n1_ := Aside0.mk (blk_below (g := gb14109) (o := .cells #[.int .u32 t14106, .int .i64 t14107] 46 (0, 0)) (by (with_reducible repeat (first | refine blk_drewN ?_ _ | refine blk_drew ?_ | refine blk_alloc ?_ _)); exact BK14109.out) hb); have n2_ := Aside0.mk (below_step (by repeat (first | (with_reducible first | exact HB.out | apply below_alloc | apply pw_below_drewN | apply below_drew1 | refine below_set ?_ GE14101.out | refine below_set ?_ GE14109.out) | exact HB.out)) hb); clear BK14101; clear BK14109; clear HB; have BK14101 := n0_; have BK14109 := n1_; have HB := n2_; clear n0_ n1_ n2_; (try clear hb); (try clear hb2); (try clear hk); (try clear hi)))
              go_ret
              exact ⟨by first | rfl | (simp [errW_none, errW_some] <;> rfl) | (simp [*, errW_none, errW_some] <;> rfl), by repeat (first | (with_reducible first | exact HB.out | apply below_alloc | apply pw_below_drewN | apply below_drew1 | refine below_set ?_ GE14101.out | refine below_set ?_ GE14109.out) | exact HB.out)⟩
            · rw [if_neg c34] at H
              have c34b0 : (t14111 == t14115) = false := beq_eq_false_iff_ne.mpr c34
              have c34b1 : (t14111 != t14115) = true := bne_iff_ne.mpr c34
              obtain rfl := Option.some.inj H
              go_wp2_with (first | ((with_reducible refine gate_callee (f := 60) rfl ?_); refine goesL_ (some 68) rfl rfl Tryd.func60 (by kernel_rfl) rfl #[.int .u32 a1] rfl (by (try simp only [List.map_toArray, List.map_cons, List.map_nil]); first | done | rfl | (simp only [List.length_drop, List.length_take]; rfl)) ?_; (with_reducible refine (names_Block.calls kj5 a1 t14110 _ A27.out).mono ?_); rintro e w41 ⟨rfl, hb⟩; refine ⟨_, rfl, ?_⟩; have n0_ := Aside0.mk (blk_below (g := gb14101) (o := .cells #[.int .u32 a0_0, .int .i64 a0_1] 44 (0, 0)) (by (with_reducible repeat (first | refine blk_drewN ?_ _ | refine blk_drew ?_ | refine blk_alloc ?_ _)); exact BK14101.out) hb); have n1_ := Aside0.mk (blk_below (g := gb14109) (o := .cells #[.int .u32 t14106, .int .i64 t14107] 46 (0, 0)) (by (with_reducible repeat (first | refine blk_drewN ?_ _ | refine blk_drew ?_ | refine blk_alloc ?_ _)); exact BK14109.out) hb); have n2_ := Aside0.mk (below_step (by repeat (first | (with_reducible first | exact HB.out | apply below_alloc | apply pw_below_drewN | apply below_drew1 | refine below_set ?_ GE14101.out | refine below_set ?_ GE14109.out) | exact HB.out)) hb); clear BK14101; clear BK14109; clear HB; have BK14101 := n0_; have BK14109 := n1_; have HB := n2_; clear n0_ n1_ n2_; (try clear hb); (try clear hb2); (try clear hk); (try clear hi)) | ((with_reducible refine gate_callee (f := 59) rfl ?_); refine goesL_ (some 69) rfl rfl Tryd.func59 (by kernel_rfl) rfl #[.string t14110] rfl (by (try simp only [List.map_toArray, List.map_cons, List.map_nil]); first | done | rfl | (simp only [List.length_drop, List.length_take]; rfl)) ?_; (with_reducible refine (names_OfBlock.calls kj5 t14110 t14111 true _ A28.out).mono ?_); rintro e w42 ⟨rfl, hb⟩; refine ⟨_, rfl, ?_⟩; have n0_ := Aside0.mk (blk_below (g := gb14101) (o := .cells #[.int .u32 a0_0, .int .i64 a0_1] 44 (0, 0)) (by (with_reducible repeat (first | refine blk_drewN ?_ _ | refine blk_drew ?_ | refine blk_alloc ?_ _)); exact BK14101.out) hb); have n1_ := Aside0.mk (blk_below (g := gb14109) (o := .cells #[.int .u32 t14106, .int .i64 t14107] 46 (0, 0)) (by (with_reducible repeat (first | refine blk_drewN ?_ _ | refine blk_drew ?_ | refine blk_alloc ?_ _)); exact BK14109.out) hb); have n2_ := Aside0.mk (below_step (by repeat (first | (with_reducible first | exact HB.out | apply below_alloc | apply pw_below_drewN | apply below_drew1 | refine below_set ?_ GE14101.out | refine below_set ?_ GE14109.out) | exact HB.out)) hb); clear BK14101; clear BK14109; clear HB; have BK14101 := n0_; have BK14109 := n1_; have HB := n2_; clear n0_ n1_ n2_; (try clear hb); (try clear hb2); (try clear hk); (try clear hi)) | ((with_reducible refine gate_callee (f := 60) rfl ?_); refine goesL_ (some 73) rfl rfl Tryd.func60 (by kernel_rfl) rfl #[.int .u32 a1] rfl (by (try simp only [List.map_toArray, List.map_cons, List.map_nil]); first | done | rfl | (simp only [List.length_drop, List.length_take]; rfl)) ?_; (with_reducible refine (names_Block.calls kj5 a1 t14113 _ A29.out).mono ?_); rintro e w43 ⟨rfl, hb⟩; refine ⟨_, rfl, ?_⟩; have n0_ := Aside0.mk (blk_below (g := gb14101) (o := .cells #[.int .u32 a0_0, .int .i64 a0_1] 44 (0, 0)) (by (with_reducible repeat (first | refine blk_drewN ?_ _ | refine blk_drew ?_ | refine blk_alloc ?_ _)); exact BK14101.out) hb); have n1_ := Aside0.mk (blk_below (g := gb14109) (o := .cells #[.int .u32 t14106, .int .i64 t14107] 46 (0, 0)) (by (with_reducible repeat (first | refine blk_drewN ?_ _ | refine blk_drew ?_ | refine blk_alloc ?_ _)); exact BK14109.out) hb); have n2_ := Aside0.mk (below_step (by repeat (first | (with_reducible first | exact HB.out | apply below_alloc | apply pw_below_drewN | apply below_drew1 | refine below_set ?_ GE14101.out | refine below_set ?_ GE14109.out) | exact HB.out)) hb); clear BK14101; clear BK14109; clear HB; have BK14101 := n0_; have BK14109 := n1_; have HB := n2_; clear n0_ n1_ n2_; (try clear hb); (try clear hb2); (try clear hk); (try clear hi)) | ((with_reducible refine gate_callee (f := 61) rfl ?_); refine goesL_ (some 75) rfl rfl Tryd.func61 (by kernel_rfl) rfl #[.int .u32 a1] rfl (by (try simp only [List.map_toArray, List.map_cons, List.map_nil]); first | done | rfl | (simp only [List.length_drop, List.length_take]; rfl)) ?_; (with_reducible refine (virgateref12_Block.calls kj5 a1 t14114 _ A30.out).mono ?_); rintro e w44 ⟨rfl, hb⟩; refine ⟨_, rfl, ?_⟩; have n0_ := Aside0.mk (blk_below (g := gb14101) (o := .cells #[.int .u32 a0_0, .int .i64 a0_1] 44 (0, 0)) (by (with_reducible repeat (first | refine blk_drewN ?_ _ | refine blk_drew ?_ | refine blk_alloc ?_ _)); exact BK14101.out) hb); have n1_ := Aside0.mk (blk_below (g := gb14109) (o := .cells #[.int .u32 t14106, .int .i64 t14107] 46 (0, 0)) (by (with_reducible repeat (first | refine blk_drewN ?_ _ | refine blk_drew ?_ | refine blk_alloc ?_ _)); exact BK14109.out) hb); have n2_ := Aside0.mk (below_step (by repeat (first | (with_reducible first | exact HB.out | apply below_alloc | apply pw_below_drewN | apply below_drew1 | refine below_set ?_ GE14101.out | refine below_set ?_ GE14109.out) | exact HB.out)) hb); clear BK14101; clear BK14109; clear HB; have BK14101 := n0_; have BK14109 := n1_; have HB := n2_; clear n0_ n1_ n2_; (try clear hb); (try clear hb2); (try clear hk); (try clear hi)) | (go_at_call 62; (with_reducible refine (virgateref12_First.calls a1 t14115 _ A33.out).mono ?_); rintro e w' ⟨rfl, ⟨nd, rfl⟩⟩))
              go_ret
              exact ⟨by first | rfl | (simp [errW_none, errW_some] <;> rfl) | (simp [*, errW_none, errW_some] <;> rfl), by repeat (first | (with_reducible first | exact HB.out | apply below_alloc | apply pw_below_drewN | apply below_drew1 | refine below_set ?_ GE14101.out | refine below_set ?_ GE14109.out) | exact HB.out)⟩
          · replace c32 := Bool.eq_false_iff.mpr c32
            subst c32
            have H1 : (some false) = some r := by rw [if_neg (show ¬ (false = true) by decide)] at H; exact H
            clear H
            have H := H1
            clear H1
            obtain rfl := Option.some.inj H
            go_wp2_with (first | ((with_reducible refine gate_callee (f := 60) rfl ?_); refine goesL_ (some 68) rfl rfl Tryd.func60 (by kernel_rfl) rfl #[.int .u32 a1] rfl (by (try simp only [List.map_toArray, List.map_cons, List.map_nil]); first | done | rfl | (simp only [List.length_drop, List.length_take]; rfl)) ?_; (with_reducible refine (names_Block.calls kj5 a1 t14110 _ A27.out).mono ?_); rintro e w45 ⟨rfl, hb⟩; refine ⟨_, rfl, ?_⟩; have n0_ := Aside0.mk (blk_below (g := gb14101) (o := .cells #[.int .u32 a0_0, .int .i64 a0_1] 44 (0, 0)) (by (with_reducible repeat (first | refine blk_drewN ?_ _ | refine blk_drew ?_ | refine blk_alloc ?_ _)); exact BK14101.out) hb); have n1_ := Aside0.mk (blk_below (g := gb14109) (o := .cells #[.int .u32 t14106, .int .i64 t14107] 46 (0, 0)) (by (with_reducible repeat (first | refine blk_drewN ?_ _ | refine blk_drew ?_ | refine blk_alloc ?_ _)); exact BK14109.out) hb); have n2_ := Aside0.mk (below_step (by repeat (first | (with_reducible first | exact HB.out | apply below_alloc | apply pw_below_drewN | apply below_drew1 | refine below_set ?_ GE14101.out | refine below_set ?_ GE14109.out) | exact HB.out)) hb); clear BK14101; clear BK14109; clear HB; have BK14101 := n0_; have BK14109 := n1_; have HB := n2_; clear n0_ n1_ n2_; (try clear hb); (try clear hb2); (try clear hk); (try clear hi)) | ((with_reducible refine gate_callee (f := 59) rfl ?_); refine goesL_ (some 69) rfl rfl Tryd.func59 (by kernel_rfl) rfl #[.string t14110] rfl (by (try simp only [List.map_toArray, List.map_cons, List.map_nil]); first | done | rfl | (simp only [List.length_drop, List.length_take]; rfl)) ?_; (with_reducible refine (names_OfBlock.calls kj5 t14110 t14111 false _ A28.out).mono ?_); rintro e w46 ⟨rfl, hb⟩; refine ⟨_, rfl, ?_⟩; have n0_ := Aside0.mk (blk_below (g := gb14101) (o := .cells #[.int .u32 a0_0, .int .i64 a0_1] 44 (0, 0)) (by (with_reducible repeat (first | refine blk_drewN ?_ _ | refine blk_drew ?_ | refine blk_alloc ?_ _)); exact BK14101.out) hb); have n1_ := Aside0.mk (blk_below (g := gb14109) (o := .cells #[.int .u32 t14106, .int .i64 t14107] 46 (0, 0)) (by (with_reducible repeat (first | refine blk_drewN ?_ _ | refine blk_drew ?_ | refine blk_alloc ?_ _)); exact BK14109.out) hb); have n2_ := Aside0.mk (below_step (by repeat (first | (with_reducible first | exact HB.out | apply below_alloc | apply pw_below_drewN | apply below_drew1 | refine below_set ?_ GE14101.out | refine below_set ?_ GE14109.out) | exact HB.out)) hb); clear BK14101; clear BK14109; clear HB; have BK14101 := n0_; have BK14109 := n1_; have HB := n2_; clear n0_ n1_ n2_; (try clear hb); (try clear hb2); (try clear hk); (try clear hi)) | ((with_reducible refine gate_callee (f := 60) rfl ?_); refine goesL_ (some 73) rfl rfl Tryd.func60 (by kernel_rfl) rfl #[.int .u32 a1] rfl (by (try simp only [List.map_toArray, List.map_cons, List.map_nil]); first | done | rfl | (simp only [List.length_drop, List.length_take]; rfl)) ?_; (with_reducible refine (names_Block.calls kj5 a1 t14113 _ A29.out).mono ?_); rintro e w47 ⟨rfl, hb⟩; refine ⟨_, rfl, ?_⟩; have n0_ := Aside0.mk (blk_below (g := gb14101) (o := .cells #[.int .u32 a0_0, .int .i64 a0_1] 44 (0, 0)) (by (with_reducible repeat (first | refine blk_drewN ?_ _ | refine blk_drew ?_ | refine blk_alloc ?_ _)); exact BK14101.out) hb); have n1_ := Aside0.mk (blk_below (g := gb14109) (o := .cells #[.int .u32 t14106, .int .i64 t14107] 46 (0, 0)) (by (with_reducible repeat (first | refine blk_drewN ?_ _ | refine blk_drew ?_ | refine blk_alloc ?_ _)); exact BK14109.out) hb); have n2_ := Aside0.mk (below_step (by repeat (first | (with_reducible first | exact HB.out | apply below_alloc | apply pw_below_drewN | apply below_drew1 | refine below_set ?_ GE14101.out | refine below_set ?_ GE14109.out) | exact HB.out)) hb); clear BK14101; clear BK14109; clear HB; have BK14101 := n0_; have BK14109 := n1_; have HB := n2_; clear n0_ n1_ n2_; (try clear hb); (try clear hb2); (try clear hk); (try clear hi)) | ((with_reducible refine gate_callee (f := 61) rfl ?_); refine goesL_ (some 75) rfl rfl Tryd.func61 (by kernel_rfl) rfl #[.int .u32 a1] rfl (by (try simp only [List.map_toArray, List.map_cons, List.map_nil]); first | done | rfl | (simp only [List.length_drop, List.length_take]; rfl)) ?_; (with_reducible refine (virgateref12_Block.calls kj5 a1 t14114 _ A30.out).mono ?_); rintro e w48 ⟨rfl, hb⟩; refine ⟨_, rfl, ?_⟩; have n0_ := Aside0.mk (blk_below (g := gb14101) (o := .cells #[.int .u32 a0_0, .int .i64 a0_1] 44 (0, 0)) (by (with_reducible repeat (first | refine blk_drewN ?_ _ | refine blk_drew ?_ | refine blk_alloc ?_ _)); exact BK14101.out) hb); have n1_ := Aside0.mk (blk_below (g := gb14109) (o := .cells #[.int .u32 t14106, .int .i64 t14107] 46 (0, 0)) (by (with_reducible repeat (first | refine blk_drewN ?_ _ | refine blk_drew ?_ | refine blk_alloc ?_ _)); exact BK14109.out) hb); have n2_ := Aside0.mk (below_step (by repeat (first | (with_reducible first | exact HB.out | apply below_alloc | apply pw_below_drewN | apply below_drew1 | refine below_set ?_ GE14101.out | refine below_set ?_ GE14109.out) | exact HB.out)) hb); clear BK14101; clear BK14109; clear HB; have BK14101 := n0_; have BK14109 := n1_; have HB := n2_; clear n0_ n1_ n2_; (try clear hb); (try clear hb2); (try clear hk); (try clear hi)))
            go_ret
            exact ⟨by first | rfl | (simp [errW_none, errW_some] <;> rfl) | (simp [*, errW_none, errW_some] <;> rfl), by repeat (first | (with_reducible first | exact HB.out | apply below_alloc | apply pw_below_drewN | apply below_drew1 | refine below_set ?_ GE14101.out | refine below_set ?_ GE14109.out) | exact HB.out)⟩
        · rw [if_neg c31] at H
          have c31b0 : (t14113.toList == t14114.toList) = false := beq_eq_false_iff_ne.mpr c31
          have c31b1 : (t14113.toList != t14114.toList) = true := bne_iff_ne.mpr c31
          obtain rfl := Option.some.inj H
          go_wp2_with (first | ((with_reducible refine gate_callee (f := 60) rfl ?_); refine goesL_ (some 68) rfl rfl Tryd.func60 (by kernel_rfl) rfl #[.int .u32 a1] rfl (by (try simp only [List.map_toArray, List.map_cons, List.map_nil]); first | done | rfl | (simp only [List.length_drop, List.length_take]; rfl)) ?_; (with_reducible refine (names_Block.calls kj5 a1 t14110 _ A27.out).mono ?_); rintro e w49 ⟨rfl, hb⟩; refine ⟨_, rfl, ?_⟩; have n0_ := Aside0.mk (blk_below (g := gb14101) (o := .cells #[.int .u32 a0_0, .int .i64 a0_1] 44 (0, 0)) (by (with_reducible repeat (first | refine blk_drewN ?_ _ | refine blk_drew ?_ | refine blk_alloc ?_ _)); exact BK14101.out) hb); have n1_ := Aside0.mk (blk_below (g := gb14109) (o := .cells #[.int .u32 t14106, .int .i64 t14107] 46 (0, 0)) (by (with_reducible repeat (first | refine blk_drewN ?_ _ | refine blk_drew ?_ | refine blk_alloc ?_ _)); exact BK14109.out) hb); have n2_ := Aside0.mk (below_step (by repeat (first | (with_reducible first | exact HB.out | apply below_alloc | apply pw_below_drewN | apply below_drew1 | refine below_set ?_ GE14101.out | refine below_set ?_ GE14109.out) | exact HB.out)) hb); clear BK14101; clear BK14109; clear HB; have BK14101 := n0_; have BK14109 := n1_; have HB := n2_; clear n0_ n1_ n2_; (try clear hb); (try clear hb2); (try clear hk); (try clear hi)) | ((with_reducible refine gate_callee (f := 59) rfl ?_); refine goesL_ (some 69) rfl rfl Tryd.func59 (by kernel_rfl) rfl #[.string t14110] rfl (by (try simp only [List.map_toArray, List.map_cons, List.map_nil]); first | done | rfl | (simp only [List.length_drop, List.length_take]; rfl)) ?_; (with_reducible refine (names_OfBlock.calls kj5 t14110 t14111 t14112 _ A28.out).mono ?_); rintro e w50 ⟨rfl, hb⟩; refine ⟨_, rfl, ?_⟩; have n0_ := Aside0.mk (blk_below (g := gb14101) (o := .cells #[.int .u32 a0_0, .int .i64 a0_1] 44 (0, 0)) (by (with_reducible repeat (first | refine blk_drewN ?_ _ | refine blk_drew ?_ | refine blk_alloc ?_ _)); exact BK14101.out) hb); have n1_ := Aside0.mk (blk_below (g := gb14109) (o := .cells #[.int .u32 t14106, .int .i64 t14107] 46 (0, 0)) (by (with_reducible repeat (first | refine blk_drewN ?_ _ | refine blk_drew ?_ | refine blk_alloc ?_ _)); exact BK14109.out) hb); have n2_ := Aside0.mk (below_step (by repeat (first | (with_reducible first | exact HB.out | apply below_alloc | apply pw_below_drewN | apply below_drew1 | refine below_set ?_ GE14101.out | refine below_set ?_ GE14109.out) | exact HB.out)) hb); clear BK14101; clear BK14109; clear HB; have BK14101 := n0_; have BK14109 := n1_; have HB := n2_; clear n0_ n1_ n2_; (try clear hb); (try clear hb2); (try clear hk); (try clear hi)) | ((with_reducible refine gate_callee (f := 60) rfl ?_); refine goesL_ (some 73) rfl rfl Tryd.func60 (by kernel_rfl) rfl #[.int .u32 a1] rfl (by (try simp only [List.map_toArray, List.map_cons, List.map_nil]); first | done | rfl | (simp only [List.length_drop, List.length_take]; rfl)) ?_; (with_reducible refine (names_Block.calls kj5 a1 t14113 _ A29.out).mono ?_); rintro e w51 ⟨rfl, hb⟩; refine ⟨_, rfl, ?_⟩; have n0_ := Aside0.mk (blk_below (g := gb14101) (o := .cells #[.int .u32 a0_0, .int .i64 a0_1] 44 (0, 0)) (by (with_reducible repeat (first | refine blk_drewN ?_ _ | refine blk_drew ?_ | refine blk_alloc ?_ _)); exact BK14101.out) hb); have n1_ := Aside0.mk (blk_below (g := gb14109) (o := .cells #[.int .u32 t14106, .int .i64 t14107] 46 (0, 0)) (by (with_reducible repeat (first | refine blk_drewN ?_ _ | refine blk_drew ?_ | refine blk_alloc ?_ _)); exact BK14109.out) hb); have n2_ := Aside0.mk (below_step (by repeat (first | (with_reducible first | exact HB.out | apply below_alloc | apply pw_below_drewN | apply below_drew1 | refine below_set ?_ GE14101.out | refine below_set ?_ GE14109.out) | exact HB.out)) hb); clear BK14101; clear BK14109; clear HB; have BK14101 := n0_; have BK14109 := n1_; have HB := n2_; clear n0_ n1_ n2_; (try clear hb); (try clear hb2); (try clear hk); (try clear hi)) | ((with_reducible refine gate_callee (f := 61) rfl ?_); refine goesL_ (some 75) rfl rfl Tryd.func61 (by kernel_rfl) rfl #[.int .u32 a1] rfl (by (try simp only [List.map_toArray, List.map_cons, List.map_nil]); first | done | rfl | (simp only [List.length_drop, List.length_take]; rfl)) ?_; (with_reducible refine (virgateref12_Block.calls kj5 a1 t14114 _ A30.out).mono ?_); rintro e w52 ⟨rfl, hb⟩; refine ⟨_, rfl, ?_⟩; have n0_ := Aside0.mk (blk_below (g := gb14101) (o := .cells #[.int .u32 a0_0, .int .i64 a0_1] 44 (0, 0)) (by (with_reducible repeat (first | refine blk_drewN ?_ _ | refine blk_drew ?_ | refine blk_alloc ?_ _)); exact BK14101.out) hb); have n1_ := Aside0.mk (blk_below (g := gb14109) (o := .cells #[.int .u32 t14106, .int .i64 t14107] 46 (0, 0)) (by (with_reducible repeat (first | refine blk_drewN ?_ _ | refine blk_drew ?_ | refine blk_alloc ?_ _)); exact BK14109.out) hb); have n2_ := Aside0.mk (below_step (by repeat (first | (with_reducible first | exact HB.out | apply below_alloc | apply pw_below_drewN | apply below_drew1 | refine below_set ?_ GE14101.out | refine below_set ?_ GE14109.out) | exact HB.out)) hb); clear BK14101; clear BK14109; clear HB; have BK14101 := n0_; have BK14109 := n1_; have HB := n2_; clear n0_ n1_ n2_; (try clear hb); (try clear hb2); (try clear hk); (try clear hi)))
          go_ret
          exact ⟨by first | rfl | (simp [errW_none, errW_some] <;> rfl) | (simp [*, errW_none, errW_some] <;> rfl), by repeat (first | (with_reducible first | exact HB.out | apply below_alloc | apply pw_below_drewN | apply below_drew1 | refine below_set ?_ GE14101.out | refine below_set ?_ GE14109.out) | exact HB.out)⟩
end Go.Proofs.YtcdopgkkieenjaaDoor.V
end

-- LNNets
section
/- NamesNets: the plain law and the walk. -/
namespace Go.Proofs.YtcdopgkkieenjaaDoor.V
open Go.RowKit Go.Proofs.YtcdopgkkieenjaaDoorW.PrintWords Go.Proofs.YtcdopgkkieenjaaDoorW.PrintLast Go.Proofs.YtcdopgkkieenjaaDoorW.PrintMore
set_option linter.unusedVariables false
set_option linter.unusedSimpArgs false
theorem awake12_f (k : Nat) (hk : 8 ≤ k) : virgatelaw12_awake.f k = some true := by
  have h1 := block_name_f 167772230 (by omega) k (by omega)
  have e : firstN 167772230 = 167772224 := by decide
  rw [e] at h1
  have h2 := ofBlock_mk 167772224 (by omega) (by decide) k (by omega)
  unfold virgatelaw12_awake.f
  rw [show (167772230 : Int) = ((167772230 : Nat) : Int) from rfl, h1, Option.bind_some, show ((⟨#[98, 108, 111, 99, 107, 47]⟩ : ByteArray) ++ dashT 167772224 26) = pBlock ++ dashT 167772224 26 from rfl, h2, Option.bind_some, if_pos (by kernel_rfl), if_pos (by rfl)]
end Go.Proofs.YtcdopgkkieenjaaDoor.V
end

-- VFVirgatelaw12Namesfit
section
-- PRINTED by print.py (a twelfth state) out of the translation. Not trusted: Lean checks it.
namespace Go.Proofs.YtcdopgkkieenjaaDoor.V
open Go.RowKit Go.Proofs.YtcdopgkkieenjaaDoorW.PrintWords Go.Proofs.YtcdopgkkieenjaaDoorW.PrintLast Go.Proofs.YtcdopgkkieenjaaDoorW.PrintMore
attribute [local go_sem] max2_int min2_int max_two min_two max_three min_three max_four min_four   -- for this text's walks alone
set_option linter.unusedVariables false
set_option linter.unusedSimpArgs false

/-! ### virgatelaw12_NamesFit: function 16 -/
mutual
def virgatelaw12_NamesFit.j0 : Nat → ByteArray → Int → Int → Int → Option (Bool)
  | 0, _, _, _, _ => none
  | k + 1, x1, x2, x16102000, x16102001 => (names_Pool.f k x16102000 x16102001).bind fun bt16102 => ((names_Aff.f k x1 x2).bind fun bt16104 => ((names_Handle.f x1).bind fun bt16106 => ((names_Node.f x1).bind fun bt16108 => ((names_Block.f k x2).bind fun t16110 => ((some (([bt16102.1, t16110, bt16104.1, bt16106.1, bt16108.1, (⟨#[108, 111, 99, 107]⟩ : ByteArray)] : List ByteArray) : List ByteArray)).bind fun y16111 => (virgatelaw12_NamesFit.l0 k x2 y16111 (y16111.length : Int) 0))))))
def virgatelaw12_NamesFit.l0 : Nat → Int → List ByteArray → Int → Int → Option (Bool)
  | 0, _, _, _, _ => none
  | k + 1, x2, x53, x54, x55 => if x55 < x54 then (if 0 ≤ x55 then (if x55 < (x53.length : Int) then (if ((rdOf ByteArray.empty x53 x55).size : Int) > 128 then (some false) else (virgatelaw12_NamesFit.l0 k x2 x53 x54 (wrap64 (x55 + 1)))) else (none)) else (none)) else ((names_Block.f k x2).bind fun t16115 => (if t16115.toList = ([] : List UInt8) then (some false) else ((virgatelaw12_awake.f k).bind fun t16116 => (some t16116))))
end
def virgatelaw12_NamesFit.f (k : Nat) (a0_0 : Int) (a0_1 : Int) (a1 : ByteArray) (a2 : Int) : Option (Bool) := if (a1.size : Int) > 80 then (if 0 ≤ 80 then (if 80 ≤ (a1.size : Int) then (virgatelaw12_NamesFit.j0 k (a1.extract 0 80) a2 a0_0 a0_1) else (none)) else (none)) else (virgatelaw12_NamesFit.j0 k a1 a2 a0_0 a0_1)
theorem virgatelaw12_NamesFit.mono_l : ∀ k, (∀ y0 y1 y2 y3, LeO (virgatelaw12_NamesFit.j0 k y0 y1 y2 y3) (virgatelaw12_NamesFit.j0 (k + 1) y0 y1 y2 y3)) ∧ (∀ y0 y1 y2 y3, LeO (virgatelaw12_NamesFit.l0 k y0 y1 y2 y3) (virgatelaw12_NamesFit.l0 (k + 1) y0 y1 y2 y3))
  | 0 => ⟨fun _ _ _ _ r h => by simp [virgatelaw12_NamesFit.j0] at h, fun _ _ _ _ r h => by simp [virgatelaw12_NamesFit.l0] at h⟩
  | k + 1 => by
    obtain ⟨ih0, ih1⟩ := virgatelaw12_NamesFit.mono_l k
    refine ⟨?_, ?_⟩
    · intro y0 y1 y2 y3
      unfold virgatelaw12_NamesFit.j0
      repeat' first
      | (with_reducible exact ih0 _ _ _ _)
      | (with_reducible exact ih1 _ _ _ _)
      | (with_reducible exact names_Aff.mono _ _ _)
      | (with_reducible exact names_Block.mono _ _)
      | (with_reducible exact names_Pool.mono _ _ _)
      | (with_reducible exact virgatelaw12_awake.mono _)
      | (with_reducible exact LeO.refl _)
      | (with_reducible exact LeO.none _)
      | (with_reducible refine LeO.ite ?_ ?_)
      | (with_reducible refine LeO.bind ?_ (fun _ => ?_))
      | exact ih0 _ _ _ _
      | exact ih1 _ _ _ _
      | exact names_Aff.mono _ _ _
      | exact names_Block.mono _ _
      | exact names_Pool.mono _ _ _
      | exact virgatelaw12_awake.mono _
      | exact LeO.none _
      | refine LeO.ite ?_ ?_
      | refine LeO.bind ?_ (fun _ => ?_)
    · intro y0 y1 y2 y3
      unfold virgatelaw12_NamesFit.l0
      repeat' first
      | (with_reducible exact ih0 _ _ _ _)
      | (with_reducible exact ih1 _ _ _ _)
      | (with_reducible exact names_Aff.mono _ _ _)
      | (with_reducible exact names_Block.mono _ _)
      | (with_reducible exact names_Pool.mono _ _ _)
      | (with_reducible exact virgatelaw12_awake.mono _)
      | (with_reducible exact LeO.refl _)
      | (with_reducible exact LeO.none _)
      | (with_reducible refine LeO.ite ?_ ?_)
      | (with_reducible refine LeO.bind ?_ (fun _ => ?_))
      | exact ih0 _ _ _ _
      | exact ih1 _ _ _ _
      | exact names_Aff.mono _ _ _
      | exact names_Block.mono _ _
      | exact names_Pool.mono _ _ _
      | exact virgatelaw12_awake.mono _
      | exact LeO.none _
      | refine LeO.ite ?_ ?_
      | refine LeO.bind ?_ (fun _ => ?_)
theorem virgatelaw12_NamesFit.mono : ∀ a0 a1 a2 a3 k, LeO (virgatelaw12_NamesFit.f k a0 a1 a2 a3) (virgatelaw12_NamesFit.f (k + 1) a0 a1 a2 a3) := by
  intro a0 a1 a2 a3 k
  obtain ⟨ih0, ih1⟩ := virgatelaw12_NamesFit.mono_l k
  unfold virgatelaw12_NamesFit.f
  repeat' first
      | (with_reducible exact ih0 _ _ _ _)
      | (with_reducible exact ih1 _ _ _ _)
      | (with_reducible exact names_Aff.mono _ _ _)
      | (with_reducible exact names_Block.mono _ _)
      | (with_reducible exact names_Pool.mono _ _ _)
      | (with_reducible exact virgatelaw12_awake.mono _)
      | (with_reducible exact LeO.refl _)
      | (with_reducible exact LeO.none _)
      | (with_reducible refine LeO.ite ?_ ?_)
      | (with_reducible refine LeO.bind ?_ (fun _ => ?_))
      | exact ih0 _ _ _ _
      | exact ih1 _ _ _ _
      | exact names_Aff.mono _ _ _
      | exact names_Block.mono _ _
      | exact names_Pool.mono _ _ _
      | exact virgatelaw12_awake.mono _
      | exact LeO.none _
      | refine LeO.ite ?_ ?_
      | refine LeO.bind ?_ (fun _ => ?_)
set_option maxHeartbeats 8000000 in
set_option maxRecDepth 100000 in
theorem virgatelaw12_NamesFit.calls (k : Nat) (a0_0 : Int) (a0_1 : Int) (a1 : ByteArray) (a2 : Int) (r : Bool) (w : World) (h : virgatelaw12_NamesFit.f k a0_0 a0_1 a1 a2 = some r) :
    Calls Tryd.prog 16 #[.agg #[.int .u32 a0_0, .int .i64 a0_1], .string a1, .int .u32 a2] w fun e w' => e = .returned (.bool r) ∧ Below w.heap.size w w' := by
  have hu44 := Tryd.underlying44
  have hu46 := Tryd.underlying46
  have HB := Aside0.mk (Below.refl w.heap.size w)
  have H : (if (a1.size : Int) > 80 then (if 0 ≤ 80 then (if 80 ≤ (a1.size : Int) then (virgatelaw12_NamesFit.j0 k (a1.extract 0 80) a2 a0_0 a0_1) else (none)) else (none)) else (virgatelaw12_NamesFit.j0 k a1 a2 a0_0 a0_1)) = some r := h
  clear h
  have HC4 := Aside0.mk H
  clear H
  go_enter Tryd.func16, Tryd.ntmps16
  go_upto_if 19 with (first | ((with_reducible refine gate_dst (N := 3) rfl ?_); refine box_event ?hg (N := 3) ?hd (cs := #[.int .u32 a0_0, .int .i64 a0_1]) (t := 44) ?hr ?_; (case hd => rfl); (case hg => rfl); (case hr => first | (go_simp; done) | (go_simp; rfl)); intro gb16101 hg w5 hbox hb; have n0_ := Aside0.mk (below_step (by repeat (first | (with_reducible first | exact HB.out | apply below_alloc | apply pw_below_drewN | apply below_drew1) | exact HB.out)) hb); have n1_ := Aside0.mk (hbox); have n2_ := Aside0.mk ((by rw [hg]; exact (below_size (by repeat (first | (with_reducible first | exact HB.out | apply below_alloc | apply pw_below_drewN | apply below_drew1) | exact HB.out))) : w.heap.size ≤ gb16101)); have n3_ := Aside0.mk ((by rw [hg]; exact (below_size (by repeat (first | (with_reducible first | exact HB.out | apply below_alloc | apply pw_below_drewN | apply below_drew1) | exact HB.out))) : w.heap.size ≤ gb16101)); clear HB; have HB := n0_; have BK16101 := n1_; have GW16101 := n2_; have GE16101 := n3_; clear n0_ n1_ n2_ n3_; clear hb hbox hg))
  (try simp only [Act.put, List.setIfInBounds_toArray, List.set_cons_zero, List.set_cons_succ])
  go_cut [1] (fun v1 wc => ∃ (kq : Nat) (x1_3 : ByteArray), v1 = .string x1_3 ∧ Aside0 (virgatelaw12_NamesFit.j0 kq x1_3 a2 a0_0 a0_1 = some r) ∧ Aside0 (kq ≤ k) ∧ Aside0 (wc.heap[gb16101]? = some (.cells #[.int .u32 a0_0, .int .i64 a0_1] 44 (0, 0))) ∧ Aside0 (Below w.heap.size w wc))
  case first =>
    have H := HC4.out
    clear HC4
    by_cases c6 : (a1.size : Int) > 80
    · rw [if_pos c6] at H
      have c6b0 : decide (80 < (a1.size : Int)) = true := decide_eq_true c6
      have c6b1 : decide (80 < a1.size) = true := decide_eq_true (by omega)
      clear c6
      (first | rw [c6b0] | (simp only [i64_w, i32_w]; rw [c6b0]) | skip)
      by_cases c7 : 0 ≤ 80
      · rw [if_pos c7] at H
        have c7b0 := eq_true c7
        have c7b1 : decide (0 ≤ 80) = true := decide_eq_true c7
        clear c7
        by_cases c8 : 80 ≤ (a1.size : Int)
        · rw [if_pos c8] at H
          have c8b0 := eq_true c8
          have c8b1 : decide (80 ≤ (a1.size : Int)) = true := decide_eq_true c8
          clear c8
          have H' := Aside0.mk H
          clear H
          go_wp2
          go_meet
          case rel => exact ⟨_, (a1.extract 0 80), (by first | rfl | (simp; done) | (simp [*]; done)), H', ⟨by first | omega | exact Nat.le_refl _⟩, ⟨by (with_reducible repeat (first | refine blk_drewN ?_ _ | refine blk_drew ?_ | refine blk_alloc ?_ _)); exact BK16101.out⟩, ⟨by repeat (first | (with_reducible first | exact HB.out | apply below_alloc | apply pw_below_drewN | apply below_drew1 | refine below_set ?_ GE16101.out) | exact HB.out)⟩⟩
        · rw [if_neg c8] at H
          exact absurd H (by simp)
      · rw [if_neg c7] at H
        exact absurd H (by simp)
    · rw [if_neg c6] at H
      have c6b0 : decide (80 < (a1.size : Int)) = false := decide_eq_false c6
      have c6b1 : decide (80 < a1.size) = false := decide_eq_false (by omega)
      clear c6
      (first | rw [c6b0] | (simp only [i64_w, i32_w]; rw [c6b0]) | skip)
      have H' := Aside0.mk H
      clear H
      go_wp2
      go_meet
      case rel => exact ⟨_, (a1), (by first | rfl | (simp; done) | (simp [*]; done)), H', ⟨by first | omega | exact Nat.le_refl _⟩, ⟨by (with_reducible repeat (first | refine blk_drewN ?_ _ | refine blk_drew ?_ | refine blk_alloc ?_ _)); exact BK16101.out⟩, ⟨by repeat (first | (with_reducible first | exact HB.out | apply below_alloc | apply pw_below_drewN | apply below_drew1 | refine below_set ?_ GE16101.out) | exact HB.out)⟩⟩
  case rest =>
    clear HC4
    try clear c1
    try clear p2
    try clear c6
    try clear c6b0
    try clear c6b1
    try clear c7
    try clear c7b0
    try clear c7b1
    try clear c8
    try clear c8b0
    try clear c8b1
    obtain ⟨kq, x1_3, rfl, HA, HJ3, BK16101, HB⟩ := hcut
    cases kq with
    | zero => exact absurd HA.out (by simp [virgatelaw12_NamesFit.j0])
    | succ kj3 =>
      have H := HA.out
      clear HA
      simp only [virgatelaw12_NamesFit.j0] at H
      replace H := Option.bind_eq_some_iff.mp H
      obtain ⟨⟨t16102, t16103⟩, A90, H⟩ := H
      replace H : ((names_Aff.f kj3 x1_3 a2).bind fun bt16104 => ((names_Handle.f x1_3).bind fun bt16106 => ((names_Node.f x1_3).bind fun bt16108 => ((names_Block.f kj3 a2).bind fun t16110 => ((some (([t16102, t16110, bt16104.1, bt16106.1, bt16108.1, (⟨#[108, 111, 99, 107]⟩ : ByteArray)] : List ByteArray) : List ByteArray)).bind fun y16111 => (virgatelaw12_NamesFit.l0 kj3 a2 y16111 (y16111.length : Int) 0)))))) = some r := H
      have A9 := Aside0.mk A90
      clear A90
      replace H := Option.bind_eq_some_iff.mp H
      obtain ⟨⟨t16104, t16105⟩, A100, H⟩ := H
      replace H : ((names_Handle.f x1_3).bind fun bt16106 => ((names_Node.f x1_3).bind fun bt16108 => ((names_Block.f kj3 a2).bind fun t16110 => ((some (([t16102, t16110, t16104, bt16106.1, bt16108.1, (⟨#[108, 111, 99, 107]⟩ : ByteArray)] : List ByteArray) : List ByteArray)).bind fun y16111 => (virgatelaw12_NamesFit.l0 kj3 a2 y16111 (y16111.length : Int) 0))))) = some r := H
      have A10 := Aside0.mk A100
      clear A100
      replace H := Option.bind_eq_some_iff.mp H
      obtain ⟨⟨t16106, t16107⟩, A110, H⟩ := H
      replace H : ((names_Node.f x1_3).bind fun bt16108 => ((names_Block.f kj3 a2).bind fun t16110 => ((some (([t16102, t16110, t16104, t16106, bt16108.1, (⟨#[108, 111, 99, 107]⟩ : ByteArray)] : List ByteArray) : List ByteArray)).bind fun y16111 => (virgatelaw12_NamesFit.l0 kj3 a2 y16111 (y16111.length : Int) 0)))) = some r := H
      have A11 := Aside0.mk A110
      clear A110
      replace H := Option.bind_eq_some_iff.mp H
      obtain ⟨⟨t16108, t16109⟩, A120, H⟩ := H
      replace H : ((names_Block.f kj3 a2).bind fun t16110 => ((some (([t16102, t16110, t16104, t16106, t16108, (⟨#[108, 111, 99, 107]⟩ : ByteArray)] : List ByteArray) : List ByteArray)).bind fun y16111 => (virgatelaw12_NamesFit.l0 kj3 a2 y16111 (y16111.length : Int) 0))) = some r := H
      have A12 := Aside0.mk A120
      clear A120
      replace H := Option.bind_eq_some_iff.mp H
      obtain ⟨t16110, A130, H⟩ := H
      replace H : ((some (([t16102, t16110, t16104, t16106, t16108, (⟨#[108, 111, 99, 107]⟩ : ByteArray)] : List ByteArray) : List ByteArray)).bind fun y16111 => (virgatelaw12_NamesFit.l0 kj3 a2 y16111 (y16111.length : Int) 0)) = some r := H
      have A13 := Aside0.mk A130
      clear A130
      obtain ⟨y16111, hy16111⟩ : ∃ y_ : List ByteArray, y_ = (([t16102, t16110, t16104, t16106, t16108, (⟨#[108, 111, 99, 107]⟩ : ByteArray)] : List ByteArray)) := ⟨_, rfl⟩
      replace H : (virgatelaw12_NamesFit.l0 kj3 a2 y16111 (y16111.length : Int) 0) = some r := by first | (rw [hy16111]; with_reducible exact H) | (have H2_ := (Option.bind_some _ _).symm.trans H; rw [hy16111]; with_reducible exact H2_) | (have H2_ := (Option.bind_some _ _).symm.trans H; with_reducible exact H2_) | with_reducible exact H | (rw [hy16111]; exact H) | exact H
      have Ny16111 := Aside0.mk hy16111
      clear hy16111
      have H' := Aside0.mk H
      clear H
      have hcz14_0 : wc.cell? ⟨gb16101, 0, none⟩ = some (.int .u32 a0_0) := (blk_cell BK16101.out 0).trans rfl
      have hcz14_1 : wc.cell? ⟨gb16101, 1, none⟩ = some (.int .i64 a0_1) := (blk_cell BK16101.out 1).trans rfl
      have hfz14_0 := blk_frozen BK16101.out 0
      have hfz14_1 := blk_frozen BK16101.out 1
      go_wp2_with (first | ((with_reducible refine gate_callee (f := 56) rfl ?_); refine goesL_ (some 28) rfl rfl Tryd.func56 (by kernel_rfl) rfl #[.agg #[.int .u32 a0_0, .int .i64 a0_1]] rfl (by (try simp only [List.map_toArray, List.map_cons, List.map_nil]); first | done | rfl | (simp only [List.length_drop, List.length_take]; rfl)) ?_; (with_reducible refine (names_Pool.calls kj3 a0_0 a0_1 t16102 t16103 _ A9.out).mono ?_); rintro e w15 ⟨rfl, hb⟩; refine ⟨_, rfl, ?_⟩; have n0_ := Aside0.mk (blk_below (g := gb16101) (o := .cells #[.int .u32 a0_0, .int .i64 a0_1] 44 (0, 0)) (by (with_reducible repeat (first | refine blk_drewN ?_ _ | refine blk_drew ?_ | refine blk_alloc ?_ _)); exact BK16101.out) hb); have n1_ := Aside0.mk (below_step (by repeat (first | (with_reducible first | exact HB.out | apply below_alloc | apply pw_below_drewN | apply below_drew1 | refine below_set ?_ GE16101.out) | exact HB.out)) hb); clear BK16101; clear HB; have BK16101 := n0_; have HB := n1_; clear n0_ n1_; (try clear hb); (try clear hb2); (try clear hk); (try clear hi)) | ((with_reducible refine gate_callee (f := 69) rfl ?_); refine goesL_ (some 34) rfl rfl Tryd.func69 (by kernel_rfl) rfl #[.string x1_3, .int .u32 a2] rfl (by (try simp only [List.map_toArray, List.map_cons, List.map_nil]); first | done | rfl | (simp only [List.length_drop, List.length_take]; rfl)) ?_; (with_reducible refine (names_Aff.calls kj3 x1_3 a2 t16104 t16105 _ A10.out).mono ?_); rintro e w16 ⟨rfl, hb⟩; refine ⟨_, rfl, ?_⟩; have n0_ := Aside0.mk (blk_below (g := gb16101) (o := .cells #[.int .u32 a0_0, .int .i64 a0_1] 44 (0, 0)) (by (with_reducible repeat (first | refine blk_drewN ?_ _ | refine blk_drew ?_ | refine blk_alloc ?_ _)); exact BK16101.out) hb); have n1_ := Aside0.mk (below_step (by repeat (first | (with_reducible first | exact HB.out | apply below_alloc | apply pw_below_drewN | apply below_drew1 | refine below_set ?_ GE16101.out) | exact HB.out)) hb); clear BK16101; clear HB; have BK16101 := n0_; have HB := n1_; clear n0_ n1_; (try clear hb); (try clear hb2); (try clear hk); (try clear hi)) | ((with_reducible refine gate_callee (f := 70) rfl ?_); refine goesL_ (some 39) rfl rfl Tryd.func70 (by kernel_rfl) rfl #[.string x1_3] rfl (by (try simp only [List.map_toArray, List.map_cons, List.map_nil]); first | done | rfl | (simp only [List.length_drop, List.length_take]; rfl)) ?_; (with_reducible refine (names_Handle.calls x1_3 t16106 t16107 _ A11.out).mono ?_); rintro e w17 ⟨rfl, hb⟩; refine ⟨_, rfl, ?_⟩; have n0_ := Aside0.mk (blk_below (g := gb16101) (o := .cells #[.int .u32 a0_0, .int .i64 a0_1] 44 (0, 0)) (by (with_reducible repeat (first | refine blk_drewN ?_ _ | refine blk_drew ?_ | refine blk_alloc ?_ _)); exact BK16101.out) hb); have n1_ := Aside0.mk (below_step (by repeat (first | (with_reducible first | exact HB.out | apply below_alloc | apply pw_below_drewN | apply below_drew1 | refine below_set ?_ GE16101.out) | exact HB.out)) hb); clear BK16101; clear HB; have BK16101 := n0_; have HB := n1_; clear n0_ n1_; (try clear hb); (try clear hb2); (try clear hk); (try clear hi)) | ((with_reducible refine gate_callee (f := 71) rfl ?_); refine goesL_ (some 44) rfl rfl Tryd.func71 (by kernel_rfl) rfl #[.string x1_3] rfl (by (try simp only [List.map_toArray, List.map_cons, List.map_nil]); first | done | rfl | (simp only [List.length_drop, List.length_take]; rfl)) ?_; (with_reducible refine (names_Node.calls x1_3 t16108 t16109 _ A12.out).mono ?_); rintro e w18 ⟨rfl, hb⟩; refine ⟨_, rfl, ?_⟩; have n0_ := Aside0.mk (blk_below (g := gb16101) (o := .cells #[.int .u32 a0_0, .int .i64 a0_1] 44 (0, 0)) (by (with_reducible repeat (first | refine blk_drewN ?_ _ | refine blk_drew ?_ | refine blk_alloc ?_ _)); exact BK16101.out) hb); have n1_ := Aside0.mk (below_step (by repeat (first | (with_reducible first | exact HB.out | apply below_alloc | apply pw_below_drewN | apply below_drew1 | refine below_set ?_ GE16101.out) | exact HB.out)) hb); clear BK16101; clear HB; have BK16101 := n0_; have HB := n1_; clear n0_ n1_; (try clear hb); (try clear hb2); (try clear hk); (try clear hi)) | ((with_reducible refine gate_callee (f := 60) rfl ?_); refine goesL_ (some 49) rfl rfl Tryd.func60 (by kernel_rfl) rfl #[.int .u32 a2] rfl (by (try simp only [List.map_toArray, List.map_cons, List.map_nil]); first | done | rfl | (simp only [List.length_drop, List.length_take]; rfl)) ?_; (with_reducible refine (names_Block.calls kj3 a2 t16110 _ A13.out).mono ?_); rintro e w19 ⟨rfl, hb⟩; refine ⟨_, rfl, ?_⟩; have n0_ := Aside0.mk (blk_below (g := gb16101) (o := .cells #[.int .u32 a0_0, .int .i64 a0_1] 44 (0, 0)) (by (with_reducible repeat (first | refine blk_drewN ?_ _ | refine blk_drew ?_ | refine blk_alloc ?_ _)); exact BK16101.out) hb); have n1_ := Aside0.mk (below_step (by repeat (first | (with_reducible first | exact HB.out | apply below_alloc | apply pw_below_drewN | apply below_drew1 | refine below_set ?_ GE16101.out) | exact HB.out)) hb); clear BK16101; clear HB; have BK16101 := n0_; have HB := n1_; clear n0_ n1_; (try clear hb); (try clear hb2); (try clear hk); (try clear hi)) | ((with_reducible refine gate_dst (N := 53) rfl ?_); refine Kd.R_lit Kd.string _ 9 ?hg (N := 53) ?hd (xs := ([t16102, t16110, t16104, t16106, t16108, (⟨#[108, 111, 99, 107]⟩ : ByteArray)] : List ByteArray)) (inner := [.string t16102, .string t16110, .string t16104, .string t16106, .string t16108, .string (⟨#[108, 111, 99, 107]⟩ : ByteArray)]) (ok := fun _ => True) (okp := fun _ => True) ?hr ?hp (fun _ hk => hk) trivial (Below.refl _ _) (Nat.le_refl _) (by simp) ?_; (case hd => rfl); (case hg => rfl); (case hr => first | (go_simp; done) | (go_simp; rfl)); (case hp => exact (Reps.one (show Kd.M Kd.string _ _ _ t16102 [.string t16102] from rfl) (Reps.one (show Kd.M Kd.string _ _ _ t16110 [.string t16110] from rfl) (Reps.one (show Kd.M Kd.string _ _ _ t16104 [.string t16104] from rfl) (Reps.one (show Kd.M Kd.string _ _ _ t16106 [.string t16106] from rfl) (Reps.one (show Kd.M Kd.string _ _ _ t16108 [.string t16108] from rfl) (Reps.one (show Kd.M Kd.string _ _ _ (⟨#[108, 111, 99, 107]⟩ : ByteArray) [.string (⟨#[108, 111, 99, 107]⟩ : ByteArray)] from rfl) (Reps.none _ _)))))))); intro v16112 w20 ho21 hb hg_ hnew_; clear hg_ hnew_; (first | rw [← Ny16111.out] at ho21 | (simp only [Int.reduceToNat] at ho21; rw [← Ny16111.out] at ho21)); have n0_ := Aside0.mk (Kd.R_lower ho21 (below_size (by repeat (first | (with_reducible first | exact HB.out | apply below_alloc | apply pw_below_drewN | apply below_drew1 | refine below_set ?_ GE16101.out) | exact HB.out)))); have n1_ := Aside0.mk (blk_below (g := gb16101) (o := .cells #[.int .u32 a0_0, .int .i64 a0_1] 44 (0, 0)) (by (with_reducible repeat (first | refine blk_drewN ?_ _ | refine blk_drew ?_ | refine blk_alloc ?_ _)); exact BK16101.out) hb); have n2_ := Aside0.mk (below_step (by repeat (first | (with_reducible first | exact HB.out | apply below_alloc | apply pw_below_drewN | apply below_drew1 | refine below_set ?_ GE16101.out) | exact HB.out)) hb); clear BK16101; clear HB; have HO16113 := n0_; have BK16101 := n1_; have HB := n2_; clear n0_ n1_ n2_; clear hb ho21; obtain ⟨Ao22, co22, eo22⟩ := Kd.R_slice HO16113.out; subst eo22))
      go_loopg [55] kj3 (fun kq v55 w' => ∃ (x55_2 : Int), v55 = .int .i64 x55_2 ∧ Aside0 (virgatelaw12_NamesFit.l0 kq a2 y16111 (y16111.length : Int) x55_2 = some r) ∧ Aside0 (kq ≤ kj3) ∧ Aside0 (Kd.R Kd.string 9 w' w.heap.size (fun _ => True) (.slice Ao22 y16111.length co22) y16111) ∧ Aside0 (w'.heap[gb16101]? = some (.cells #[.int .u32 a0_0, .int .i64 a0_1] 44 (0, 0))) ∧ Aside0 (Below w.heap.size w w'))
      case atStart => exact ⟨(0), (by first | rfl | (simp; done) | (simp [*]; done)), H', ⟨Nat.le_refl _⟩, ⟨by (with_reducible repeat (first | apply Kd.R_alloc | apply Kd.R_drewN | apply Kd.R_drew)); exact HO16113.out⟩, ⟨by (with_reducible repeat (first | refine blk_drewN ?_ _ | refine blk_drew ?_ | refine blk_alloc ?_ _)); exact BK16101.out⟩, ⟨by repeat (first | (with_reducible first | exact HB.out | apply below_alloc | apply pw_below_drewN | apply below_drew1 | refine below_set ?_ GE16101.out) | exact HB.out)⟩⟩
      case round =>
        clear H'
        try clear c1
        try clear p2
        try clear c5
        try clear c6
        try clear c6b0
        try clear c6b1
        try clear c7
        try clear c7b0
        try clear c7b1
        try clear c8
        try clear c8b0
        try clear c8b1
        try clear c16
        try clear hcz14_0
        try clear hcz14_1
        try clear hfz14_0
        try clear hfz14_1
        try clear p2
        obtain ⟨x55_2, rfl, HA, HK2, HO_53, BK16101, HB⟩ := hrel
        cases gk with
        | zero => exact absurd HA.out (by simp [virgatelaw12_NamesFit.l0])
        | succ k2 =>
          have H := HA.out
          clear HA
          simp only [virgatelaw12_NamesFit.l0] at H
          by_cases c23 : x55_2 < (y16111.length : Int)
          · rw [if_pos c23] at H
            have c23b0 : decide (x55_2 < (y16111.length : Int)) = true := decide_eq_true c23
            clear c23
            by_cases c24 : 0 ≤ x55_2
            · rw [if_pos c24] at H
              have c24b0 : decide (0 ≤ x55_2) = true := decide_eq_true c24
              clear c24
              by_cases c25 : x55_2 < (y16111.length : Int)
              · rw [if_pos c25] at H
                have c25b0 : decide (x55_2 < (y16111.length : Int)) = true := decide_eq_true c25
                clear c25
                by_cases c26 : ((rdOf ByteArray.empty y16111 x55_2).size : Int) > 128
                · rw [if_pos c26] at H
                  have c26b0 : decide (128 < ((rdOf ByteArray.empty y16111 x55_2).size : Int)) = true := decide_eq_true c26
                  have c26b1 : decide (128 < (rdOf ByteArray.empty y16111 x55_2).size) = true := decide_eq_true (by omega)
                  clear c26
                  obtain rfl := Option.some.inj H
                  have p16114 : 0 ≤ (x55_2 : Int) := of_decide_eq_true (by first | (with_reducible assumption) | assumption)
                  have q16114 : x55_2 < (y16111.length : Int) := of_decide_eq_true (by first | (with_reducible assumption) | assumption)
                  obtain ⟨ad16114, e16114, hx16114_0⟩ := Kd.at_string (Kd.R_reads' HO_53.out).2.2 x55_2 p16114 q16114
                  cases e16114
                  replace p16114 := eq_true p16114
                  replace q16114 := eq_true q16114
                  go_wp2
                  go_ret
                  exact ⟨by first | rfl | (simp [errW_none, errW_some] <;> rfl) | (simp [*, errW_none, errW_some] <;> rfl), by repeat (first | (with_reducible first | exact HB.out | apply below_alloc | apply pw_below_drewN | apply below_drew1 | refine below_set ?_ GE16101.out) | exact HB.out)⟩
                · rw [if_neg c26] at H
                  have c26b0 : decide (128 < ((rdOf ByteArray.empty y16111 x55_2).size : Int)) = false := decide_eq_false c26
                  have c26b1 : decide (128 < (rdOf ByteArray.empty y16111 x55_2).size) = false := decide_eq_false (by omega)
                  clear c26
                  have H' := Aside0.mk H
                  clear H
                  have p16114 : 0 ≤ (x55_2 : Int) := of_decide_eq_true (by first | (with_reducible assumption) | assumption)
                  have q16114 : x55_2 < (y16111.length : Int) := of_decide_eq_true (by first | (with_reducible assumption) | assumption)
                  obtain ⟨ad16114, e16114, hx16114_0⟩ := Kd.at_string (Kd.R_reads' HO_53.out).2.2 x55_2 p16114 q16114
                  cases e16114
                  replace p16114 := eq_true p16114
                  replace q16114 := eq_true q16114
                  go_wp2
                  go_roundg k2
                  case measure => have := HJ3.out; have := HK2.out; omega
                  case rel => exact ⟨(wrap64 (x55_2 + 1)), (by first | rfl | (simp; done) | (simp [*]; done)), H', ⟨by have := HJ3.out; have := HK2.out; omega⟩, ⟨by (with_reducible repeat (first | apply Kd.R_alloc | apply Kd.R_drewN | apply Kd.R_drew)); exact HO_53.out⟩, ⟨by (with_reducible repeat (first | refine blk_drewN ?_ _ | refine blk_drew ?_ | refine blk_alloc ?_ _)); exact BK16101.out⟩, ⟨by repeat (first | (with_reducible first | exact HB.out | apply below_alloc | apply pw_below_drewN | apply below_drew1 | refine below_set ?_ GE16101.out) | exact HB.out)⟩⟩
              · rw [if_neg c25] at H
                exact absurd H (by simp)
            · rw [if_neg c24] at H
              exact absurd H (by simp)
          · rw [if_neg c23] at H
            have c23b0 : decide (x55_2 < (y16111.length : Int)) = false := decide_eq_false c23
            clear c23
            replace H := Option.bind_eq_some_iff.mp H
            obtain ⟨t16115, A270, H⟩ := H
            replace H : (if t16115.toList = ([] : List UInt8) then (some false) else ((virgatelaw12_awake.f k2).bind fun t16116 => (some t16116))) = some r := H
            have A27 := Aside0.mk A270
            clear A270
            by_cases c28 : t16115.toList = ([] : List UInt8)
            · rw [if_pos c28] at H
              have c28b0 : (t16115.toList == ([] : List UInt8)) = true := beq_iff_eq.mpr c28
              have c28b1 : (t16115.toList != ([] : List UInt8)) = false := bne_eq_false_iff_eq.mpr c28
              clear c28
              obtain rfl := Option.some.inj H
              go_wp2_with (first | ((with_reducible refine gate_callee (f := 60) rfl ?_); refine goesL_ (some 64) rfl rfl Tryd.func60 (by kernel_rfl) rfl #[.int .u32 a2] rfl (by (try simp only [List.map_toArray, List.map_cons, List.map_nil]); first | done | rfl | (simp only [List.length_drop, List.length_take]; rfl)) ?_; (with_reducible refine (names_Block.calls k2 a2 t16115 _ A27.out).mono ?_); rintro e w29 ⟨rfl, hb⟩; refine ⟨_, rfl, ?_⟩; have n0_ := Aside0.mk (Kd.R_below (by (with_reducible repeat (first | apply Kd.R_alloc | apply Kd.R_drewN | apply Kd.R_drew)); exact HO_53.out) hb); have n1_ := Aside0.mk (blk_below (g := gb16101) (o := .cells #[.int .u32 a0_0, .int .i64 a0_1] 44 (0, 0)) (by (with_reducible repeat (first | refine blk_drewN ?_ _ | refine blk_drew ?_ | refine blk_alloc ?_ _)); exact BK16101.out) hb); have n2_ := Aside0.mk (below_step (by repeat (first | (with_reducible first | exact HB.out | apply below_alloc | apply pw_below_drewN | apply below_drew1 | refine below_set ?_ GE16101.out) | exact HB.out)) hb); clear HO_53; clear BK16101; clear HB; have HO_53 := n0_; have BK16101 := n1_; have HB := n2_; clear n0_ n1_ n2_; (try clear hb); (try clear hb2); (try clear hk); (try clear hi)))
              go_ret
              exact ⟨by first | rfl | (simp [errW_none, errW_some] <;> rfl) | (simp [*, errW_none, errW_some] <;> rfl), by repeat (first | (with_reducible first | exact HB.out | apply below_alloc | apply pw_below_drewN | apply below_drew1 | refine below_set ?_ GE16101.out) | exact HB.out)⟩
            · rw [if_neg c28] at H
              have c28b0 : (t16115.toList == ([] : List UInt8)) = false := beq_eq_false_iff_ne.mpr c28
              have c28b1 : (t16115.toList != ([] : List UInt8)) = true := bne_iff_ne.mpr c28
              replace H := Option.bind_eq_some_iff.mp H
              obtain ⟨t16116, A300, H⟩ := H
              replace H : (some t16116) = some r := H
              have A30 := Aside0.mk A300
              clear A300
              obtain rfl := Option.some.inj H
              go_wp2_with (first | ((with_reducible refine gate_callee (f := 60) rfl ?_); refine goesL_ (some 64) rfl rfl Tryd.func60 (by kernel_rfl) rfl #[.int .u32 a2] rfl (by (try simp only [List.map_toArray, List.map_cons, List.map_nil]); first | done | rfl | (simp only [List.length_drop, List.length_take]; rfl)) ?_; (with_reducible refine (names_Block.calls k2 a2 t16115 _ A27.out).mono ?_); rintro e w31 ⟨rfl, hb⟩; refine ⟨_, rfl, ?_⟩; have n0_ := Aside0.mk (Kd.R_below (by (with_reducible repeat (first | apply Kd.R_alloc | apply Kd.R_drewN | apply Kd.R_drew)); exact HO_53.out) hb); have n1_ := Aside0.mk (blk_below (g := gb16101) (o := .cells #[.int .u32 a0_0, .int .i64 a0_1] 44 (0, 0)) (by (with_reducible repeat (first | refine blk_drewN ?_ _ | refine blk_drew ?_ | refine blk_alloc ?_ _)); exact BK16101.out) hb); have n2_ := Aside0.mk (below_step (by repeat (first | (with_reducible first | exact HB.out | apply below_alloc | apply pw_below_drewN | apply below_drew1 | refine below_set ?_ GE16101.out) | exact HB.out)) hb); clear HO_53; clear BK16101; clear HB; have HO_53 := n0_; have BK16101 := n1_; have HB := n2_; clear n0_ n1_ n2_; (try clear hb); (try clear hb2); (try clear hk); (try clear hi)) | (go_at_call 63; (with_reducible refine (virgatelaw12_awake.calls k2  t16116 _ A30.out).mono ?_); rintro e w32 ⟨rfl, hb⟩; have n0_ := Aside0.mk (Kd.R_below (by (with_reducible repeat (first | apply Kd.R_alloc | apply Kd.R_drewN | apply Kd.R_drew)); exact HO_53.out) hb); have n1_ := Aside0.mk (blk_below (g := gb16101) (o := .cells #[.int .u32 a0_0, .int .i64 a0_1] 44 (0, 0)) (by (with_reducible repeat (first | refine blk_drewN ?_ _ | refine blk_drew ?_ | refine blk_alloc ?_ _)); exact BK16101.out) hb); have n2_ := Aside0.mk (below_step (by repeat (first | (with_reducible first | exact HB.out | apply below_alloc | apply pw_below_drewN | apply below_drew1 | refine below_set ?_ GE16101.out) | exact HB.out)) hb); clear HO_53; clear BK16101; clear HB; have HO_53 := n0_; have BK16101 := n1_; have HB := n2_; clear n0_ n1_ n2_; (try clear hb); (try clear hb2); (try clear hk); (try clear hi)))
              go_ret
              exact ⟨by first | rfl | (simp [errW_none, errW_some] <;> rfl) | (simp [*, errW_none, errW_some] <;> rfl), by repeat (first | (with_reducible first | exact HB.out | apply below_alloc | apply pw_below_drewN | apply below_drew1 | refine below_set ?_ GE16101.out) | exact HB.out)⟩
end Go.Proofs.YtcdopgkkieenjaaDoor.V
end

-- LNFit
section
/- NamesFit: the plain law and the walk. -/
namespace Go.Proofs.YtcdopgkkieenjaaDoor.V
open Go.RowKit Go.Proofs.YtcdopgkkieenjaaDoorW.PrintWords Go.Proofs.YtcdopgkkieenjaaDoorW.PrintLast Go.Proofs.YtcdopgkkieenjaaDoorW.PrintMore
set_option linter.unusedVariables false
set_option linter.unusedSimpArgs false
theorem fit_l0 (x : Nat) (hx : x < 4294967296) (l : List ByteArray) (hl : l.length = 6) (hk : ∀ s ∈ l, s.size ≤ 128) : ∀ (d k i : Nat), i + d = 6 → d + 20 < k → virgatelaw12_NamesFit.l0 k (x : Int) l (6 : Int) (i : Int) = some true := by
  intro d
  induction d with
  | zero =>
    intro k i hi hk2
    obtain ⟨k, rfl⟩ : ∃ m, k = m + 1 := ⟨k - 1, by omega⟩
    obtain rfl : i = 6 := by omega
    rw [virgatelaw12_NamesFit.l0, if_neg (by decide), block_name_f x hx k (by omega), Option.bind_some, if_neg ?_, awake12_f k (by omega)]
    · rfl
    · intro h
      rw [ByteArray.toList_eq] at h
      simp at h
  | succ d ih =>
    intro k i hi hk2
    obtain ⟨k, rfl⟩ : ∃ m, k = m + 1 := ⟨k - 1, by omega⟩
    have hil : i < l.length := by omega
    rw [virgatelaw12_NamesFit.l0, if_pos (by omega), if_pos (by omega), if_pos (by omega)]
    have e : rdOf ByteArray.empty l (i : Int) = l[i] := by simp [rdOf, List.getD, hil]
    have := hk l[i] (List.getElem_mem _)
    rw [e, if_neg (by omega), wrap64_id _ (by omega) (by omega), show (i : Int) + 1 = ((i + 1 : Nat) : Int) by omega]
    exact ih k (i + 1) (by omega) (by omega)
theorem fit_j0 (s : ByteArray) (hs : s.size ≤ 80) (a : Nat) (ha : a < 4294967296) (b : Int) (x : Nat) (hx : x < 4294967296) (k : Nat) (hk : 60 ≤ k) : virgatelaw12_NamesFit.j0 (k + 1) s (x : Int) (a : Int) b = some true := by
  obtain ⟨g1, g2⟩ := firstN_lt hx
  have d1 := dashT_size (firstN x) 26
  have p1 : pAff.size = 4 := rfl
  have e1 : ∀ p : ByteArray, p.size ≤ 8 → (if rightName s = true then (p ++ s, (0 : Int)) else (⟨#[]⟩, 1)).1.size ≤ 128 := fun p hp => by
    split
    · rw [ByteArray.size_append]; omega
    · exact (by decide : (0 : Nat) ≤ 128)
  rw [virgatelaw12_NamesFit.j0, pool_f a ha b k (by omega), Option.bind_some, aff_f s (by omega) x hx k (by omega), Option.bind_some]
  unfold names_Handle.f names_Node.f
  rw [named_f _ s (by have : (⟨#[104, 97, 110, 100, 108, 101, 47]⟩ : ByteArray).size = 7 := rfl; omega), named_f _ s (by have : (⟨#[110, 111, 100, 101, 47]⟩ : ByteArray).size = 5 := rfl; omega), Option.bind_some, Option.bind_some, Option.bind_some, Option.bind_some, block_name_f x hx k (by omega), Option.bind_some, Option.bind_some]
  refine fit_l0 x hx _ rfl ?_ 6 k 0 (by omega) (by omega)
  intro t ht
  simp only [List.mem_cons, List.not_mem_nil, or_false] at ht
  rcases ht with rfl | rfl | rfl | rfl | rfl | rfl
  · split
    · have := dashT_size a b.toNat
      rw [ByteArray.size_append, show (⟨#[112, 111, 111, 108, 47]⟩ : ByteArray).size = 5 from rfl]
      omega
    · exact (by decide : (0 : Nat) ≤ 128)
  · rw [ByteArray.size_append, show (⟨#[98, 108, 111, 99, 107, 47]⟩ : ByteArray).size = 6 from rfl]
    omega
  · split
    · unfold affT
      rw [ByteArray.size_append, ByteArray.size_append, ByteArray.size_append, show (⟨#[47]⟩ : ByteArray).size = 1 from rfl]
      omega
    · exact (by decide : (0 : Nat) ≤ 128)
  · exact e1 _ (by decide)
  · exact e1 _ (by decide)
  · decide
theorem namesFit_law (s : ByteArray) (a : Nat) (ha : a < 4294967296) (b : Int) (x : Nat) (hx : x < 4294967296) : virgatelaw12_NamesFit.f 100 (a : Int) b s (x : Int) = some true := by
  unfold virgatelaw12_NamesFit.f
  by_cases h : (s.size : Int) > 80
  · rw [if_pos h, if_pos (by omega), if_pos (by omega)]
    exact fit_j0 _ (by rw [ByteArray.size_extract]; omega) a ha b x hx 99 (by omega)
  · rw [if_neg h]
    exact fit_j0 s (by omega) a ha b x hx 99 (by omega)
theorem namesFit_walk (v : Value) (y : Int × Int) (a1 : ByteArray) (a2 : Int) (w : World) (h : NetIs v y) (h1 : a1.size ≤ 140737488351232) (w2 : (Lit.int .u32 a2).wf = true) : Calls Tryd.prog 16 #[v, .string a1, .int .u32 a2] w fun e w' => e = .returned (.bool true) ∧ Below w.heap.size w w' := by
  obtain ⟨rfl, v0, v1⟩ := h
  obtain ⟨a, b⟩ := y
  obtain ⟨n, rfl, hn⟩ := wf_u32 v0
  obtain ⟨m, rfl, hm⟩ := wf_u32 w2
  exact virgatelaw12_NamesFit.calls 100 _ _ _ _ true w (namesFit_law a1 n hn b m hm)
end Go.Proofs.YtcdopgkkieenjaaDoor.V
end

