/- The law NamesOf for every input: texts of ours, put together (part 9 of 10). No further condition. -/
import Derived.Test.YtcdopgkkieenjaaDoorCNamesOfx1
import Derived.Test.YtcdopgkkieenjaaDoorCNamesOfx6
import Derived.Test.YtcdopgkkieenjaaDoorCNamesOfx5
import Derived.Test.YtcdopgkkieenjaaDoorCNamesOfx7
-- VFVirgatelaw12Namesof
section
-- PRINTED by print.py (a twelfth state) out of the translation. Not trusted: Lean checks it.
namespace Go.Proofs.YtcdopgkkieenjaaDoor.V
open Go.RowKit Go.Proofs.YtcdopgkkieenjaaDoorW.PrintWords Go.Proofs.YtcdopgkkieenjaaDoorW.PrintLast Go.Proofs.YtcdopgkkieenjaaDoorW.PrintMore
attribute [local go_sem] max2_int min2_int max_two min_two max_three min_three max_four min_four   -- for this text's walks alone
set_option linter.unusedVariables false
set_option linter.unusedSimpArgs false

/-! ### virgatelaw12_NamesOf: function 15 -/
mutual
def virgatelaw12_NamesOf.j0 : Nat → ByteArray → Option (Bool)
  | 0, _ => none
  | k + 1, x0 => (names_OfPool.f k x0).bind fun bt15101 => (if bt15101.2.2 = true then ((virgateref12_Pool.f k bt15101.1 bt15101.2.1).bind fun bt15105 => (if bt15105.1.toList = x0.toList then (virgatelaw12_NamesOf.j1 k x0 (0 + 1)) else (some false))) else (virgatelaw12_NamesOf.j1 k x0 0))
def virgatelaw12_NamesOf.j1 : Nat → ByteArray → Int → Option (Bool)
  | 0, _, _ => none
  | k + 1, x0, x3 => (names_OfBlock.f k x0).bind fun bt15107 => (if bt15107.2 = true then ((virgateref12_Block.f k bt15107.1).bind fun t15109 => (if t15109.toList = x0.toList then ((virgateref12_First.f bt15107.1).bind fun t15110 => (if bt15107.1 = t15110 then (virgatelaw12_NamesOf.j2 k x0 (wrap64 (x3 + 1))) else (some false))) else (some false))) else (virgatelaw12_NamesOf.j2 k x0 x3))
def virgatelaw12_NamesOf.j2 : Nat → ByteArray → Int → Option (Bool)
  | 0, _, _ => none
  | k + 1, x0, x3 => (names_OfAff.f k x0).bind fun bt15111 => (if bt15111.2.2 = true then ((virgateref12_Aff.f k bt15111.1 bt15111.2.1).bind fun t15114 => (if t15114.toList = x0.toList then ((virgateref12_Right.f k bt15111.1).bind fun t15115 => (if t15115 = true then ((virgateref12_First.f bt15111.2.1).bind fun t15116 => (if bt15111.2.1 = t15116 then (virgatelaw12_NamesOf.j3 k x0 (wrap64 (x3 + 1))) else (some false))) else (some false))) else (some false))) else (virgatelaw12_NamesOf.j3 k x0 x3))
def virgatelaw12_NamesOf.j3 : Nat → ByteArray → Int → Option (Bool)
  | 0, _, _ => none
  | k + 1, x0, x3 => (names_OfHandle.f x0).bind fun bt15117 => (if bt15117.2 = true then (if 7 + bt15117.1.size ≤ 9223372036854775807 then (if ((⟨#[104, 97, 110, 100, 108, 101, 47]⟩ : ByteArray) ++ bt15117.1).toList = x0.toList then ((virgateref12_Right.f k bt15117.1).bind fun t15119 => (if t15119 = true then (virgatelaw12_NamesOf.j4 k x0 (wrap64 (x3 + 1))) else (some false))) else (some false)) else (none)) else (virgatelaw12_NamesOf.j4 k x0 x3))
def virgatelaw12_NamesOf.j4 : Nat → ByteArray → Int → Option (Bool)
  | 0, _, _ => none
  | k + 1, x0, x3 => (names_OfNode.f x0).bind fun bt15120 => (if bt15120.2 = true then (if 5 + bt15120.1.size ≤ 9223372036854775807 then (if ((⟨#[110, 111, 100, 101, 47]⟩ : ByteArray) ++ bt15120.1).toList = x0.toList then ((virgateref12_Right.f k bt15120.1).bind fun t15122 => (if t15122 = true then (if (wrap64 (x3 + 1)) ≤ 1 then ((virgatelaw12_awake.f k).bind fun t15123 => (some t15123)) else (some false)) else (some false))) else (some false)) else (none)) else (if x3 ≤ 1 then ((virgatelaw12_awake.f k).bind fun t15124 => (some t15124)) else (some false)))
end
def virgatelaw12_NamesOf.f (k : Nat) (a0 : ByteArray) : Option (Bool) := if (a0.size : Int) > 120 then (if 0 ≤ 120 then (if 120 ≤ (a0.size : Int) then (virgatelaw12_NamesOf.j0 k (a0.extract 0 120)) else (none)) else (none)) else (virgatelaw12_NamesOf.j0 k a0)
theorem virgatelaw12_NamesOf.mono_l : ∀ k, (∀ y0, LeO (virgatelaw12_NamesOf.j0 k y0) (virgatelaw12_NamesOf.j0 (k + 1) y0)) ∧ (∀ y0 y1, LeO (virgatelaw12_NamesOf.j1 k y0 y1) (virgatelaw12_NamesOf.j1 (k + 1) y0 y1)) ∧ (∀ y0 y1, LeO (virgatelaw12_NamesOf.j2 k y0 y1) (virgatelaw12_NamesOf.j2 (k + 1) y0 y1)) ∧ (∀ y0 y1, LeO (virgatelaw12_NamesOf.j3 k y0 y1) (virgatelaw12_NamesOf.j3 (k + 1) y0 y1)) ∧ (∀ y0 y1, LeO (virgatelaw12_NamesOf.j4 k y0 y1) (virgatelaw12_NamesOf.j4 (k + 1) y0 y1))
  | 0 => ⟨fun _ r h => by simp [virgatelaw12_NamesOf.j0] at h, fun _ _ r h => by simp [virgatelaw12_NamesOf.j1] at h, fun _ _ r h => by simp [virgatelaw12_NamesOf.j2] at h, fun _ _ r h => by simp [virgatelaw12_NamesOf.j3] at h, fun _ _ r h => by simp [virgatelaw12_NamesOf.j4] at h⟩
  | k + 1 => by
    obtain ⟨ih0, ih1, ih2, ih3, ih4⟩ := virgatelaw12_NamesOf.mono_l k
    refine ⟨?_, ?_, ?_, ?_, ?_⟩
    · intro y0
      unfold virgatelaw12_NamesOf.j0
      repeat' first
      | (with_reducible exact ih0 _)
      | (with_reducible exact ih1 _ _)
      | (with_reducible exact ih2 _ _)
      | (with_reducible exact ih3 _ _)
      | (with_reducible exact ih4 _ _)
      | (with_reducible exact names_OfAff.mono _ _)
      | (with_reducible exact names_OfBlock.mono _ _)
      | (with_reducible exact names_OfPool.mono _ _)
      | (with_reducible exact virgatelaw12_awake.mono _)
      | (with_reducible exact virgateref12_Aff.mono _ _ _)
      | (with_reducible exact virgateref12_Block.mono _ _)
      | (with_reducible exact virgateref12_Pool.mono _ _ _)
      | (with_reducible exact virgateref12_Right.mono _ _)
      | (with_reducible exact LeO.refl _)
      | (with_reducible exact LeO.none _)
      | (with_reducible refine LeO.ite ?_ ?_)
      | (with_reducible refine LeO.bind ?_ (fun _ => ?_))
      | exact ih0 _
      | exact ih1 _ _
      | exact ih2 _ _
      | exact ih3 _ _
      | exact ih4 _ _
      | exact names_OfAff.mono _ _
      | exact names_OfBlock.mono _ _
      | exact names_OfPool.mono _ _
      | exact virgatelaw12_awake.mono _
      | exact virgateref12_Aff.mono _ _ _
      | exact virgateref12_Block.mono _ _
      | exact virgateref12_Pool.mono _ _ _
      | exact virgateref12_Right.mono _ _
      | exact LeO.none _
      | refine LeO.ite ?_ ?_
      | refine LeO.bind ?_ (fun _ => ?_)
    · intro y0 y1
      unfold virgatelaw12_NamesOf.j1
      repeat' first
      | (with_reducible exact ih0 _)
      | (with_reducible exact ih1 _ _)
      | (with_reducible exact ih2 _ _)
      | (with_reducible exact ih3 _ _)
      | (with_reducible exact ih4 _ _)
      | (with_reducible exact names_OfAff.mono _ _)
      | (with_reducible exact names_OfBlock.mono _ _)
      | (with_reducible exact names_OfPool.mono _ _)
      | (with_reducible exact virgatelaw12_awake.mono _)
      | (with_reducible exact virgateref12_Aff.mono _ _ _)
      | (with_reducible exact virgateref12_Block.mono _ _)
      | (with_reducible exact virgateref12_Pool.mono _ _ _)
      | (with_reducible exact virgateref12_Right.mono _ _)
      | (with_reducible exact LeO.refl _)
      | (with_reducible exact LeO.none _)
      | (with_reducible refine LeO.ite ?_ ?_)
      | (with_reducible refine LeO.bind ?_ (fun _ => ?_))
      | exact ih0 _
      | exact ih1 _ _
      | exact ih2 _ _
      | exact ih3 _ _
      | exact ih4 _ _
      | exact names_OfAff.mono _ _
      | exact names_OfBlock.mono _ _
      | exact names_OfPool.mono _ _
      | exact virgatelaw12_awake.mono _
      | exact virgateref12_Aff.mono _ _ _
      | exact virgateref12_Block.mono _ _
      | exact virgateref12_Pool.mono _ _ _
      | exact virgateref12_Right.mono _ _
      | exact LeO.none _
      | refine LeO.ite ?_ ?_
      | refine LeO.bind ?_ (fun _ => ?_)
    · intro y0 y1
      unfold virgatelaw12_NamesOf.j2
      repeat' first
      | (with_reducible exact ih0 _)
      | (with_reducible exact ih1 _ _)
      | (with_reducible exact ih2 _ _)
      | (with_reducible exact ih3 _ _)
      | (with_reducible exact ih4 _ _)
      | (with_reducible exact names_OfAff.mono _ _)
      | (with_reducible exact names_OfBlock.mono _ _)
      | (with_reducible exact names_OfPool.mono _ _)
      | (with_reducible exact virgatelaw12_awake.mono _)
      | (with_reducible exact virgateref12_Aff.mono _ _ _)
      | (with_reducible exact virgateref12_Block.mono _ _)
      | (with_reducible exact virgateref12_Pool.mono _ _ _)
      | (with_reducible exact virgateref12_Right.mono _ _)
      | (with_reducible exact LeO.refl _)
      | (with_reducible exact LeO.none _)
      | (with_reducible refine LeO.ite ?_ ?_)
      | (with_reducible refine LeO.bind ?_ (fun _ => ?_))
      | exact ih0 _
      | exact ih1 _ _
      | exact ih2 _ _
      | exact ih3 _ _
      | exact ih4 _ _
      | exact names_OfAff.mono _ _
      | exact names_OfBlock.mono _ _
      | exact names_OfPool.mono _ _
      | exact virgatelaw12_awake.mono _
      | exact virgateref12_Aff.mono _ _ _
      | exact virgateref12_Block.mono _ _
      | exact virgateref12_Pool.mono _ _ _
      | exact virgateref12_Right.mono _ _
      | exact LeO.none _
      | refine LeO.ite ?_ ?_
      | refine LeO.bind ?_ (fun _ => ?_)
    · intro y0 y1
      unfold virgatelaw12_NamesOf.j3
      repeat' first
      | (with_reducible exact ih0 _)
      | (with_reducible exact ih1 _ _)
      | (with_reducible exact ih2 _ _)
      | (with_reducible exact ih3 _ _)
      | (with_reducible exact ih4 _ _)
      | (with_reducible exact names_OfAff.mono _ _)
      | (with_reducible exact names_OfBlock.mono _ _)
      | (with_reducible exact names_OfPool.mono _ _)
      | (with_reducible exact virgatelaw12_awake.mono _)
      | (with_reducible exact virgateref12_Aff.mono _ _ _)
      | (with_reducible exact virgateref12_Block.mono _ _)
      | (with_reducible exact virgateref12_Pool.mono _ _ _)
      | (with_reducible exact virgateref12_Right.mono _ _)
      | (with_reducible exact LeO.refl _)
      | (with_reducible exact LeO.none _)
      | (with_reducible refine LeO.ite ?_ ?_)
      | (with_reducible refine LeO.bind ?_ (fun _ => ?_))
      | exact ih0 _
      | exact ih1 _ _
      | exact ih2 _ _
      | exact ih3 _ _
      | exact ih4 _ _
      | exact names_OfAff.mono _ _
      | exact names_OfBlock.mono _ _
      | exact names_OfPool.mono _ _
      | exact virgatelaw12_awake.mono _
      | exact virgateref12_Aff.mono _ _ _
      | exact virgateref12_Block.mono _ _
      | exact virgateref12_Pool.mono _ _ _
      | exact virgateref12_Right.mono _ _
      | exact LeO.none _
      | refine LeO.ite ?_ ?_
      | refine LeO.bind ?_ (fun _ => ?_)
    · intro y0 y1
      unfold virgatelaw12_NamesOf.j4
      repeat' first
      | (with_reducible exact ih0 _)
      | (with_reducible exact ih1 _ _)
      | (with_reducible exact ih2 _ _)
      | (with_reducible exact ih3 _ _)
      | (with_reducible exact ih4 _ _)
      | (with_reducible exact names_OfAff.mono _ _)
      | (with_reducible exact names_OfBlock.mono _ _)
      | (with_reducible exact names_OfPool.mono _ _)
      | (with_reducible exact virgatelaw12_awake.mono _)
      | (with_reducible exact virgateref12_Aff.mono _ _ _)
      | (with_reducible exact virgateref12_Block.mono _ _)
      | (with_reducible exact virgateref12_Pool.mono _ _ _)
      | (with_reducible exact virgateref12_Right.mono _ _)
      | (with_reducible exact LeO.refl _)
      | (with_reducible exact LeO.none _)
      | (with_reducible refine LeO.ite ?_ ?_)
      | (with_reducible refine LeO.bind ?_ (fun _ => ?_))
      | exact ih0 _
      | exact ih1 _ _
      | exact ih2 _ _
      | exact ih3 _ _
      | exact ih4 _ _
      | exact names_OfAff.mono _ _
      | exact names_OfBlock.mono _ _
      | exact names_OfPool.mono _ _
      | exact virgatelaw12_awake.mono _
      | exact virgateref12_Aff.mono _ _ _
      | exact virgateref12_Block.mono _ _
      | exact virgateref12_Pool.mono _ _ _
      | exact virgateref12_Right.mono _ _
      | exact LeO.none _
      | refine LeO.ite ?_ ?_
      | refine LeO.bind ?_ (fun _ => ?_)
theorem virgatelaw12_NamesOf.mono : ∀ a0 k, LeO (virgatelaw12_NamesOf.f k a0) (virgatelaw12_NamesOf.f (k + 1) a0) := by
  intro a0 k
  obtain ⟨ih0, ih1, ih2, ih3, ih4⟩ := virgatelaw12_NamesOf.mono_l k
  unfold virgatelaw12_NamesOf.f
  repeat' first
      | (with_reducible exact ih0 _)
      | (with_reducible exact ih1 _ _)
      | (with_reducible exact ih2 _ _)
      | (with_reducible exact ih3 _ _)
      | (with_reducible exact ih4 _ _)
      | (with_reducible exact names_OfAff.mono _ _)
      | (with_reducible exact names_OfBlock.mono _ _)
      | (with_reducible exact names_OfPool.mono _ _)
      | (with_reducible exact virgatelaw12_awake.mono _)
      | (with_reducible exact virgateref12_Aff.mono _ _ _)
      | (with_reducible exact virgateref12_Block.mono _ _)
      | (with_reducible exact virgateref12_Pool.mono _ _ _)
      | (with_reducible exact virgateref12_Right.mono _ _)
      | (with_reducible exact LeO.refl _)
      | (with_reducible exact LeO.none _)
      | (with_reducible refine LeO.ite ?_ ?_)
      | (with_reducible refine LeO.bind ?_ (fun _ => ?_))
      | exact ih0 _
      | exact ih1 _ _
      | exact ih2 _ _
      | exact ih3 _ _
      | exact ih4 _ _
      | exact names_OfAff.mono _ _
      | exact names_OfBlock.mono _ _
      | exact names_OfPool.mono _ _
      | exact virgatelaw12_awake.mono _
      | exact virgateref12_Aff.mono _ _ _
      | exact virgateref12_Block.mono _ _
      | exact virgateref12_Pool.mono _ _ _
      | exact virgateref12_Right.mono _ _
      | exact LeO.none _
      | refine LeO.ite ?_ ?_
      | refine LeO.bind ?_ (fun _ => ?_)
set_option maxHeartbeats 8000000 in
set_option maxRecDepth 100000 in
theorem virgatelaw12_NamesOf.calls (k : Nat) (a0 : ByteArray) (r : Bool) (w : World) (h : virgatelaw12_NamesOf.f k a0 = some r) :
    Calls Tryd.prog 15 #[.string a0] w fun e w' => e = .returned (.bool r) ∧ Below w.heap.size w w' := by
  have hu46 := Tryd.underlying46
  have hu44 := Tryd.underlying44
  have HB := Aside0.mk (Below.refl w.heap.size w)
  have H : (if (a0.size : Int) > 120 then (if 0 ≤ 120 then (if 120 ≤ (a0.size : Int) then (virgatelaw12_NamesOf.j0 k (a0.extract 0 120)) else (none)) else (none)) else (virgatelaw12_NamesOf.j0 k a0)) = some r := h
  clear h
  have HC2 := Aside0.mk H
  clear H
  go_enter Tryd.func15, Tryd.ntmps15
  go_upto_if 19 with (fail)
  go_cut [0] (fun v0 wc => ∃ (kq : Nat) (x0_1 : ByteArray), v0 = .string x0_1 ∧ Aside0 (virgatelaw12_NamesOf.j0 kq x0_1 = some r) ∧ Aside0 (kq ≤ k) ∧ Aside0 (Below w.heap.size w wc))
  case first =>
    have H := HC2.out
    clear HC2
    by_cases c3 : (a0.size : Int) > 120
    · rw [if_pos c3] at H
      have c3b0 : decide (120 < (a0.size : Int)) = true := decide_eq_true c3
      have c3b1 : decide (120 < a0.size) = true := decide_eq_true (by omega)
      clear c3
      (first | rw [c3b0] | (simp only [i64_w, i32_w]; rw [c3b0]) | skip)
      by_cases c4 : 0 ≤ 120
      · rw [if_pos c4] at H
        have c4b0 := eq_true c4
        have c4b1 : decide (0 ≤ 120) = true := decide_eq_true c4
        clear c4
        by_cases c5 : 120 ≤ (a0.size : Int)
        · rw [if_pos c5] at H
          have c5b0 := eq_true c5
          have c5b1 : decide (120 ≤ (a0.size : Int)) = true := decide_eq_true c5
          clear c5
          have H' := Aside0.mk H
          clear H
          go_wp2
          go_meet
          case rel => exact ⟨_, (a0.extract 0 120), (by first | rfl | (simp; done) | (simp [*]; done)), H', ⟨by first | omega | exact Nat.le_refl _⟩, ⟨by repeat (first | (with_reducible first | exact HB.out | apply below_alloc | apply pw_below_drewN | apply below_drew1) | exact HB.out)⟩⟩
        · rw [if_neg c5] at H
          exact absurd H (by simp)
      · rw [if_neg c4] at H
        exact absurd H (by simp)
    · rw [if_neg c3] at H
      have c3b0 : decide (120 < (a0.size : Int)) = false := decide_eq_false c3
      have c3b1 : decide (120 < a0.size) = false := decide_eq_false (by omega)
      clear c3
      (first | rw [c3b0] | (simp only [i64_w, i32_w]; rw [c3b0]) | skip)
      have H' := Aside0.mk H
      clear H
      go_wp2
      go_meet
      case rel => exact ⟨_, (a0), (by first | rfl | (simp; done) | (simp [*]; done)), H', ⟨by first | omega | exact Nat.le_refl _⟩, ⟨by repeat (first | (with_reducible first | exact HB.out | apply below_alloc | apply pw_below_drewN | apply below_drew1) | exact HB.out)⟩⟩
  case rest =>
    clear HC2
    try clear c1
    try clear p2
    try clear c3
    try clear c3b0
    try clear c3b1
    try clear c4
    try clear c4b0
    try clear c4b1
    try clear c5
    try clear c5b0
    try clear c5b1
    obtain ⟨kq, x0_1, rfl, HA, HJ1, HB⟩ := hcut
    cases kq with
    | zero => exact absurd HA.out (by simp [virgatelaw12_NamesOf.j0])
    | succ kj1 =>
      have H := HA.out
      clear HA
      simp only [virgatelaw12_NamesOf.j0] at H
      replace H := Option.bind_eq_some_iff.mp H
      obtain ⟨⟨t15101, t15102, t15103⟩, A60, H⟩ := H
      replace H : (if t15103 = true then ((virgateref12_Pool.f kj1 t15101 t15102).bind fun bt15105 => (if bt15105.1.toList = x0_1.toList then (virgatelaw12_NamesOf.j1 kj1 x0_1 (0 + 1)) else (some false))) else (virgatelaw12_NamesOf.j1 kj1 x0_1 0)) = some r := H
      have A6 := Aside0.mk A60
      clear A60
      have HC7 := Aside0.mk H
      clear H
      go_upto_if 27 with (first | ((with_reducible refine gate_callee (f := 58) rfl ?_); refine goesL_ (some 24) rfl rfl Tryd.func58 (by kernel_rfl) rfl #[.string x0_1] rfl (by (try simp only [List.map_toArray, List.map_cons, List.map_nil]); first | done | rfl | (simp only [List.length_drop, List.length_take]; rfl)) ?_; (with_reducible refine (names_OfPool.calls kj1 x0_1 t15101 t15102 t15103 _ A6.out).mono ?_); rintro e w8 ⟨rfl, hb⟩; refine ⟨_, rfl, ?_⟩; have n0_ := Aside0.mk (below_step (by repeat (first | (with_reducible first | exact HB.out | apply below_alloc | apply pw_below_drewN | apply below_drew1) | exact HB.out)) hb); clear HB; have HB := n0_; clear n0_; (try clear hb); (try clear hb2); (try clear hk); (try clear hi)) | ((with_reducible refine gate_dst (N := 4) rfl ?_); refine box_event ?hg (N := 4) ?hd (cs := #[.int .u32 0, .int .i64 0]) (t := 46) ?hr ?_; (case hd => rfl); (case hg => rfl); (case hr => first | (go_simp; done) | (go_simp; rfl)); intro gb15104 hg w9 hbox hb; have n0_ := Aside0.mk (below_step (by repeat (first | (with_reducible first | exact HB.out | apply below_alloc | apply pw_below_drewN | apply below_drew1) | exact HB.out)) hb); have n1_ := Aside0.mk (hbox); have n2_ := Aside0.mk ((by rw [hg]; exact (below_size (by repeat (first | (with_reducible first | exact HB.out | apply below_alloc | apply pw_below_drewN | apply below_drew1) | exact HB.out))) : w.heap.size ≤ gb15104)); have n3_ := Aside0.mk ((by rw [hg]; exact (below_size (by repeat (first | (with_reducible first | exact HB.out | apply below_alloc | apply pw_below_drewN | apply below_drew1) | exact HB.out))) : w.heap.size ≤ gb15104)); clear HB; have HB := n0_; have BK15104 := n1_; have GW15104 := n2_; have GE15104 := n3_; clear n0_ n1_ n2_ n3_; clear hb hbox hg; have hcz10_0 : w9.cell? ⟨gb15104, 0, none⟩ = some (.int .u32 0) := (blk_cell BK15104.out 0).trans rfl; have hcz10_1 : w9.cell? ⟨gb15104, 1, none⟩ = some (.int .i64 0) := (blk_cell BK15104.out 1).trans rfl; have hfz10_0 := blk_frozen BK15104.out 0; have hfz10_1 := blk_frozen BK15104.out 1))
      (try simp only [Act.put, List.setIfInBounds_toArray, List.set_cons_zero, List.set_cons_succ])
      go_cut [3] (fun v3 wc => ∃ (kq : Nat) (x3_6 : Int), v3 = .int .i64 x3_6 ∧ Aside0 (virgatelaw12_NamesOf.j1 kq x0_1 x3_6 = some r) ∧ Aside0 (kq ≤ kj1) ∧ Aside0 (wc.heap[gb15104]? = some (.cells #[.int .u32 t15101, .int .i64 t15102] 46 (0, 0))) ∧ Aside0 (Below w.heap.size w wc))
      case first =>
        have H := HC7.out
        clear HC7
        by_cases c11 : t15103 = true
        · subst c11
          have H1 : ((virgateref12_Pool.f kj1 t15101 t15102).bind fun bt15105 => (if bt15105.1.toList = x0_1.toList then (virgatelaw12_NamesOf.j1 kj1 x0_1 (0 + 1)) else (some false))) = some r := by rw [if_pos rfl] at H; exact H
          clear H
          have H := H1
          clear H1
          replace H := Option.bind_eq_some_iff.mp H
          obtain ⟨⟨t15105, t15106⟩, A120, H⟩ := H
          replace H : (if t15105.toList = x0_1.toList then (virgatelaw12_NamesOf.j1 kj1 x0_1 (0 + 1)) else (some false)) = some r := H
          have A12 := Aside0.mk A120
          clear A120
          by_cases c13 : t15105.toList = x0_1.toList
          · rw [if_pos c13] at H
            have c13b0 : (t15105.toList == x0_1.toList) = true := beq_iff_eq.mpr c13
            have c13b1 : (t15105.toList != x0_1.toList) = false := bne_eq_false_iff_eq.mpr c13
            clear c13
            (first | rw [c13b0] | (simp only [i64_w, i32_w]; rw [c13b0]) | skip)
            have H' := Aside0.mk H
            clear H
            have hcz14_0 : w9.cell? ⟨gb15104, 0, none⟩ = some (.int .u32 0) := (blk_cell BK15104.out 0).trans rfl
            have hcz14_1 : w9.cell? ⟨gb15104, 1, none⟩ = some (.int .i64 0) := (blk_cell BK15104.out 1).trans rfl
            have hfz14_0 := blk_frozen BK15104.out 0
            have hfz14_1 := blk_frozen BK15104.out 1
            go_wp2_with (first | ((with_reducible refine gate_callee (f := 57) rfl ?_); refine goesL_ (some 34) rfl rfl Tryd.func57 (by kernel_rfl) rfl #[.agg #[.int .u32 t15101, .int .i64 t15102]] rfl (by (try simp only [List.map_toArray, List.map_cons, List.map_nil]); first | done | rfl | (simp only [List.length_drop, List.length_take]; rfl)) ?_; (with_reducible refine (virgateref12_Pool.calls kj1 t15101 t15102 t15105 t15106 _ A12.out).mono ?_); rintro e w15 ⟨rfl, hb⟩; refine ⟨_, rfl, ?_⟩; have n0_ := Aside0.mk (blk_below (g := gb15104) (o := .cells #[.int .u32 t15101, .int .i64 t15102] 46 (0, 0)) (by (with_reducible repeat (first | refine blk_drewN ?_ _ | refine blk_drew ?_ | refine blk_alloc ?_ _)); refine blk_put (cs := #[.int .u32 t15101, .int .i64 0]) ?_ 1 _ rfl; (with_reducible repeat (first | refine blk_drewN ?_ _ | refine blk_drew ?_ | refine blk_alloc ?_ _)); refine blk_put (cs := #[.int .u32 0, .int .i64 0]) ?_ 0 _ rfl; (with_reducible repeat (first | refine blk_drewN ?_ _ | refine blk_drew ?_ | refine blk_alloc ?_ _)); exact BK15104.out) hb); have n1_ := Aside0.mk (below_step (by repeat (first | (with_reducible first | exact HB.out | apply below_alloc | apply pw_below_drewN | apply below_drew1 | refine below_set ?_ GE15104.out) | exact HB.out)) hb); clear BK15104; clear HB; have BK15104 := n0_; have HB := n1_; clear n0_ n1_; (try clear hb); (try clear hb2); (try clear hk); (try clear hi)))
            go_meet
            case rel => exact ⟨_, (0 + 1), (by first | rfl | (simp; done) | (simp [*]; done)), H', ⟨by have := HJ1.out; first | omega | exact Nat.le_refl _⟩, ⟨by (with_reducible repeat (first | refine blk_drewN ?_ _ | refine blk_drew ?_ | refine blk_alloc ?_ _)); exact BK15104.out⟩, ⟨by repeat (first | (with_reducible first | exact HB.out | apply below_alloc | apply pw_below_drewN | apply below_drew1 | refine below_set ?_ GE15104.out) | exact HB.out)⟩⟩
          · rw [if_neg c13] at H
            have c13b0 : (t15105.toList == x0_1.toList) = false := beq_eq_false_iff_ne.mpr c13
            have c13b1 : (t15105.toList != x0_1.toList) = true := bne_iff_ne.mpr c13
            (first | rw [c13b0] | (simp only [i64_w, i32_w]; rw [c13b0]) | skip)
            obtain rfl := Option.some.inj H
            have hcz16_0 : w9.cell? ⟨gb15104, 0, none⟩ = some (.int .u32 0) := (blk_cell BK15104.out 0).trans rfl
            have hcz16_1 : w9.cell? ⟨gb15104, 1, none⟩ = some (.int .i64 0) := (blk_cell BK15104.out 1).trans rfl
            have hfz16_0 := blk_frozen BK15104.out 0
            have hfz16_1 := blk_frozen BK15104.out 1
            go_wp2_with (first | ((with_reducible refine gate_callee (f := 57) rfl ?_); refine goesL_ (some 34) rfl rfl Tryd.func57 (by kernel_rfl) rfl #[.agg #[.int .u32 t15101, .int .i64 t15102]] rfl (by (try simp only [List.map_toArray, List.map_cons, List.map_nil]); first | done | rfl | (simp only [List.length_drop, List.length_take]; rfl)) ?_; (with_reducible refine (virgateref12_Pool.calls kj1 t15101 t15102 t15105 t15106 _ A12.out).mono ?_); rintro e w17 ⟨rfl, hb⟩; refine ⟨_, rfl, ?_⟩; have n0_ := Aside0.mk (blk_below (g := gb15104) (o := .cells #[.int .u32 t15101, .int .i64 t15102] 46 (0, 0)) (by (with_reducible repeat (first | refine blk_drewN ?_ _ | refine blk_drew ?_ | refine blk_alloc ?_ _)); refine blk_put (cs := #[.int .u32 t15101, .int .i64 0]) ?_ 1 _ rfl; (with_reducible repeat (first | refine blk_drewN ?_ _ | refine blk_drew ?_ | refine blk_alloc ?_ _)); refine blk_put (cs := #[.int .u32 0, .int .i64 0]) ?_ 0 _ rfl; (with_reducible repeat (first | refine blk_drewN ?_ _ | refine blk_drew ?_ | refine blk_alloc ?_ _)); exact BK15104.out) hb); have n1_ := Aside0.mk (below_step (by repeat (first | (with_reducible first | exact HB.out | apply below_alloc | apply pw_below_drewN | apply below_drew1 | refine below_set ?_ GE15104.out) | exact HB.out)) hb); clear BK15104; clear HB; have BK15104 := n0_; have HB := n1_; clear n0_ n1_; (try clear hb); (try clear hb2); (try clear hk); (try clear hi)))
            go_ret
            exact ⟨by first | rfl | (simp [errW_none, errW_some] <;> rfl) | (simp [*, errW_none, errW_some] <;> rfl), by repeat (first | (with_reducible first | exact HB.out | apply below_alloc | apply pw_below_drewN | apply below_drew1 | refine below_set ?_ GE15104.out) | exact HB.out)⟩
        · replace c11 := Bool.eq_false_iff.mpr c11
          subst c11
          have H1 : (virgatelaw12_NamesOf.j1 kj1 x0_1 0) = some r := by rw [if_neg (show ¬ (false = true) by decide)] at H; exact H
          clear H
          have H := H1
          clear H1
          have H' := Aside0.mk H
          clear H
          go_wp2
          go_meet
          case rel => exact ⟨_, (0), (by first | rfl | (simp; done) | (simp [*]; done)), H', ⟨by have := HJ1.out; first | omega | exact Nat.le_refl _⟩, ⟨by (with_reducible repeat (first | refine blk_drewN ?_ _ | refine blk_drew ?_ | refine blk_alloc ?_ _)); refine blk_put (cs := #[.int .u32 t15101, .int .i64 0]) ?_ 1 _ rfl; (with_reducible repeat (first | refine blk_drewN ?_ _ | refine blk_drew ?_ | refine blk_alloc ?_ _)); refine blk_put (cs := #[.int .u32 0, .int .i64 0]) ?_ 0 _ rfl; (with_reducible repeat (first | refine blk_drewN ?_ _ | refine blk_drew ?_ | refine blk_alloc ?_ _)); exact BK15104.out⟩, ⟨by repeat (first | (with_reducible first | exact HB.out | apply below_alloc | apply pw_below_drewN | apply below_drew1 | refine below_set ?_ GE15104.out) | exact HB.out)⟩⟩
      case rest =>
        clear HC7
        try clear c1
        try clear p2
        try clear c3
        try clear c3b0
        try clear c3b1
        try clear c4
        try clear c4b0
        try clear c4b1
        try clear c5
        try clear c5b0
        try clear c5b1
        try clear c11
        try clear c13
        try clear c13b0
        try clear c13b1
        try clear c15
        try clear hcz10_0
        try clear hcz10_1
        try clear hcz14_0
        try clear hcz14_1
        try clear hcz16_0
        try clear hcz16_1
        try clear hfz10_0
        try clear hfz10_1
        try clear hfz14_0
        try clear hfz14_1
        try clear hfz16_0
        try clear hfz16_1
        try clear p2
        obtain ⟨kq, x3_6, rfl, HA, HJ6, BK15104, HB⟩ := hcut
        cases kq with
        | zero => exact absurd HA.out (by simp [virgatelaw12_NamesOf.j1])
        | succ kj6 =>
          have H := HA.out
          clear HA
          simp only [virgatelaw12_NamesOf.j1] at H
          replace H := Option.bind_eq_some_iff.mp H
          obtain ⟨⟨t15107, t15108⟩, A180, H⟩ := H
          replace H : (if t15108 = true then ((virgateref12_Block.f kj6 t15107).bind fun t15109 => (if t15109.toList = x0_1.toList then ((virgateref12_First.f t15107).bind fun t15110 => (if t15107 = t15110 then (virgatelaw12_NamesOf.j2 kj6 x0_1 (wrap64 (x3_6 + 1))) else (some false))) else (some false))) else (virgatelaw12_NamesOf.j2 kj6 x0_1 x3_6)) = some r := H
          have A18 := Aside0.mk A180
          clear A180
          have HC19 := Aside0.mk H
          clear H
          go_upto_if 47 with (first | ((with_reducible refine gate_callee (f := 59) rfl ?_); refine goesL_ (some 44) rfl rfl Tryd.func59 (by kernel_rfl) rfl #[.string x0_1] rfl (by (try simp only [List.map_toArray, List.map_cons, List.map_nil]); first | done | rfl | (simp only [List.length_drop, List.length_take]; rfl)) ?_; (with_reducible refine (names_OfBlock.calls kj6 x0_1 t15107 t15108 _ A18.out).mono ?_); rintro e w20 ⟨rfl, hb⟩; refine ⟨_, rfl, ?_⟩; have n0_ := Aside0.mk (blk_below (g := gb15104) (o := .cells #[.int .u32 t15101, .int .i64 t15102] 46 (0, 0)) (by (with_reducible repeat (first | refine blk_drewN ?_ _ | refine blk_drew ?_ | refine blk_alloc ?_ _)); exact BK15104.out) hb); have n1_ := Aside0.mk (below_step (by repeat (first | (with_reducible first | exact HB.out | apply below_alloc | apply pw_below_drewN | apply below_drew1 | refine below_set ?_ GE15104.out) | exact HB.out)) hb); clear BK15104; clear HB; have BK15104 := n0_; have HB := n1_; clear n0_ n1_; (try clear hb); (try clear hb2); (try clear hk); (try clear hi)))
          (try simp only [Act.put, List.setIfInBounds_toArray, List.set_cons_zero, List.set_cons_succ])
          go_cut [3] (fun v3 wc => ∃ (kq : Nat) (x3_18 : Int), v3 = .int .i64 x3_18 ∧ Aside0 (virgatelaw12_NamesOf.j2 kq x0_1 x3_18 = some r) ∧ Aside0 (kq ≤ kj6) ∧ Aside0 (wc.heap[gb15104]? = some (.cells #[.int .u32 t15101, .int .i64 t15102] 46 (0, 0))) ∧ Aside0 (Below w.heap.size w wc))
          case first =>
            have H := HC19.out
            clear HC19
            by_cases c21 : t15108 = true
            · subst c21
              have H1 : ((virgateref12_Block.f kj6 t15107).bind fun t15109 => (if t15109.toList = x0_1.toList then ((virgateref12_First.f t15107).bind fun t15110 => (if t15107 = t15110 then (virgatelaw12_NamesOf.j2 kj6 x0_1 (wrap64 (x3_6 + 1))) else (some false))) else (some false))) = some r := by rw [if_pos rfl] at H; exact H
              clear H
              have H := H1
              clear H1
              replace H := Option.bind_eq_some_iff.mp H
              obtain ⟨t15109, A220, H⟩ := H
              replace H : (if t15109.toList = x0_1.toList then ((virgateref12_First.f t15107).bind fun t15110 => (if t15107 = t15110 then (virgatelaw12_NamesOf.j2 kj6 x0_1 (wrap64 (x3_6 + 1))) else (some false))) else (some false)) = some r := H
              have A22 := Aside0.mk A220
              clear A220
              by_cases c23 : t15109.toList = x0_1.toList
              · rw [if_pos c23] at H
                have c23b0 : (t15109.toList == x0_1.toList) = true := beq_iff_eq.mpr c23
                have c23b1 : (t15109.toList != x0_1.toList) = false := bne_eq_false_iff_eq.mpr c23
                clear c23
                (first | rw [c23b0] | (simp only [i64_w, i32_w]; rw [c23b0]) | skip)
                replace H := Option.bind_eq_some_iff.mp H
                obtain ⟨t15110, A240, H⟩ := H
                replace H : (if t15107 = t15110 then (virgatelaw12_NamesOf.j2 kj6 x0_1 (wrap64 (x3_6 + 1))) else (some false)) = some r := H
                have A24 := Aside0.mk A240
                clear A240
                by_cases c25 : t15107 = t15110
                · rw [if_pos c25] at H
                  have c25b0 : (t15107 == t15110) = true := beq_iff_eq.mpr c25
                  have c25b1 : (t15107 != t15110) = false := bne_eq_false_iff_eq.mpr c25
                  clear c25
                  have H' := Aside0.mk H
                  clear H
                  go_wp2_with (first | ((with_reducible refine gate_callee (f := 61) rfl ?_); refine goesL_ (some 49) rfl rfl Tryd.func61 (by kernel_rfl) rfl #[.int .u32 t15107] rfl (by (try simp only [List.map_toArray, List.map_cons, List.map_nil]); first | done | rfl | (simp only [List.length_drop, List.length_take]; rfl)) ?_; (with_reducible refine (virgateref12_Block.calls kj6 t15107 t15109 _ A22.out).mono ?_); rintro e w26 ⟨rfl, hb⟩; refine ⟨_, rfl, ?_⟩; have n0_ := Aside0.mk (blk_below (g := gb15104) (o := .cells #[.int .u32 t15101, .int .i64 t15102] 46 (0, 0)) (by (with_reducible repeat (first | refine blk_drewN ?_ _ | refine blk_drew ?_ | refine blk_alloc ?_ _)); exact BK15104.out) hb); have n1_ := Aside0.mk (below_step (by repeat (first | (with_reducible first | exact HB.out | apply below_alloc | apply pw_below_drewN | apply below_drew1 | refine below_set ?_ GE15104.out) | exact HB.out)) hb); clear BK15104; clear HB; have BK15104 := n0_; have HB := n1_; clear n0_ n1_; (try clear hb); (try clear hb2); (try clear hk); (try clear hi)) | (go_at_call 62; (with_reducible refine (virgateref12_First.calls t15107 t15110 _ A24.out).mono ?_); rintro e w' ⟨rfl, ⟨nd, rfl⟩⟩))
                  go_meet
                  case rel => exact ⟨_, (wrap64 (x3_6 + 1)), (by first | rfl | (simp; done) | (simp [*]; done)), H', ⟨by have := HJ1.out; have := HJ6.out; first | omega | exact Nat.le_refl _⟩, ⟨by (with_reducible repeat (first | refine blk_drewN ?_ _ | refine blk_drew ?_ | refine blk_alloc ?_ _)); exact BK15104.out⟩, ⟨by repeat (first | (with_reducible first | exact HB.out | apply below_alloc | apply pw_below_drewN | apply below_drew1 | refine below_set ?_ GE15104.out) | exact HB.out)⟩⟩
                · rw [if_neg c25] at H
                  have c25b0 : (t15107 == t15110) = false := beq_eq_false_iff_ne.mpr c25
                  have c25b1 : (t15107 != t15110) = true := bne_iff_ne.mpr c25
                  obtain rfl := Option.some.inj H
                  go_wp2_with (first | ((with_reducible refine gate_callee (f := 61) rfl ?_); refine goesL_ (some 49) rfl rfl Tryd.func61 (by kernel_rfl) rfl #[.int .u32 t15107] rfl (by (try simp only [List.map_toArray, List.map_cons, List.map_nil]); first | done | rfl | (simp only [List.length_drop, List.length_take]; rfl)) ?_; (with_reducible refine (virgateref12_Block.calls kj6 t15107 t15109 _ A22.out).mono ?_); rintro e w27 ⟨rfl, hb⟩; refine ⟨_, rfl, ?_⟩; have n0_ := Aside0.mk (blk_below (g := gb15104) (o := .cells #[.int .u32 t15101, .int .i64 t15102] 46 (0, 0)) (by (with_reducible repeat (first | refine blk_drewN ?_ _ | refine blk_drew ?_ | refine blk_alloc ?_ _)); exact BK15104.out) hb); have n1_ := Aside0.mk (below_step (by repeat (first | (with_reducible first | exact HB.out | apply below_alloc | apply pw_below_drewN | apply below_drew1 | refine below_set ?_ GE15104.out) | exact HB.out)) hb); clear BK15104; clear HB; have BK15104 := n0_; have HB := n1_; clear n0_ n1_; (try clear hb); (try clear hb2); (try clear hk); (try clear hi)) | (go_at_call 62; (with_reducible refine (virgateref12_First.calls t15107 t15110 _ A24.out).mono ?_); rintro e w' ⟨rfl, ⟨nd, rfl⟩⟩))
                  go_ret
                  exact ⟨by first | rfl | (simp [errW_none, errW_some] <;> rfl) | (simp [*, errW_none, errW_some] <;> rfl), by repeat (first | (with_reducible first | exact HB.out | apply below_alloc | apply pw_below_drewN | apply below_drew1 | refine below_set ?_ GE15104.out) | exact HB.out)⟩
              · rw [if_neg c23] at H
                have c23b0 : (t15109.toList == x0_1.toList) = false := beq_eq_false_iff_ne.mpr c23
                have c23b1 : (t15109.toList != x0_1.toList) = true := bne_iff_ne.mpr c23
                (first | rw [c23b0] | (simp only [i64_w, i32_w]; rw [c23b0]) | skip)
                obtain rfl := Option.some.inj H
                go_wp2_with (first | ((with_reducible refine gate_callee (f := 61) rfl ?_); refine goesL_ (some 49) rfl rfl Tryd.func61 (by kernel_rfl) rfl #[.int .u32 t15107] rfl (by (try simp only [List.map_toArray, List.map_cons, List.map_nil]); first | done | rfl | (simp only [List.length_drop, List.length_take]; rfl)) ?_; (with_reducible refine (virgateref12_Block.calls kj6 t15107 t15109 _ A22.out).mono ?_); rintro e w28 ⟨rfl, hb⟩; refine ⟨_, rfl, ?_⟩; have n0_ := Aside0.mk (blk_below (g := gb15104) (o := .cells #[.int .u32 t15101, .int .i64 t15102] 46 (0, 0)) (by (with_reducible repeat (first | refine blk_drewN ?_ _ | refine blk_drew ?_ | refine blk_alloc ?_ _)); exact BK15104.out) hb); have n1_ := Aside0.mk (below_step (by repeat (first | (with_reducible first | exact HB.out | apply below_alloc | apply pw_below_drewN | apply below_drew1 | refine below_set ?_ GE15104.out) | exact HB.out)) hb); clear BK15104; clear HB; have BK15104 := n0_; have HB := n1_; clear n0_ n1_; (try clear hb); (try clear hb2); (try clear hk); (try clear hi)))
                go_ret
                exact ⟨by first | rfl | (simp [errW_none, errW_some] <;> rfl) | (simp [*, errW_none, errW_some] <;> rfl), by repeat (first | (with_reducible first | exact HB.out | apply below_alloc | apply pw_below_drewN | apply below_drew1 | refine below_set ?_ GE15104.out) | exact HB.out)⟩
            · replace c21 := Bool.eq_false_iff.mpr c21
              subst c21
              have H1 : (virgatelaw12_NamesOf.j2 kj6 x0_1 x3_6) = some r := by rw [if_neg (show ¬ (false = true) by decide)] at H; exact H
              clear H
              have H := H1
              clear H1
              have H' := Aside0.mk H
              clear H
              go_wp2
              go_meet
              case rel => exact ⟨_, (x3_6), (by first | rfl | (simp; done) | (simp [*]; done)), H', ⟨by have := HJ1.out; have := HJ6.out; first | omega | exact Nat.le_refl _⟩, ⟨by (with_reducible repeat (first | refine blk_drewN ?_ _ | refine blk_drew ?_ | refine blk_alloc ?_ _)); exact BK15104.out⟩, ⟨by repeat (first | (with_reducible first | exact HB.out | apply below_alloc | apply pw_below_drewN | apply below_drew1 | refine below_set ?_ GE15104.out) | exact HB.out)⟩⟩
          case rest =>
            clear HC19
            try clear c1
            try clear c2
            try clear p2
            try clear c3
            try clear c3b0
            try clear c3b1
            try clear c4
            try clear c4b0
            try clear c4b1
            try clear c5
            try clear c5b0
            try clear c5b1
            try clear c6
            try clear p6
            try clear c11
            try clear c13
            try clear c13b0
            try clear c13b1
            try clear c15
            try clear c21
            try clear c23
            try clear c23b0
            try clear c23b1
            try clear c25
            try clear c25b0
            try clear c25b1
            try clear hcz10_0
            try clear hcz10_1
            try clear hcz14_0
            try clear hcz14_1
            try clear hcz16_0
            try clear hcz16_1
            try clear hfz10_0
            try clear hfz10_1
            try clear hfz14_0
            try clear hfz14_1
            try clear hfz16_0
            try clear hfz16_1
            try clear p2
            obtain ⟨kq, x3_18, rfl, HA, HJ18, BK15104, HB⟩ := hcut
            cases kq with
            | zero => exact absurd HA.out (by simp [virgatelaw12_NamesOf.j2])
            | succ kj18 =>
              have H := HA.out
              clear HA
              simp only [virgatelaw12_NamesOf.j2] at H
              replace H := Option.bind_eq_some_iff.mp H
              obtain ⟨⟨t15111, t15112, t15113⟩, A290, H⟩ := H
              replace H : (if t15113 = true then ((virgateref12_Aff.f kj18 t15111 t15112).bind fun t15114 => (if t15114.toList = x0_1.toList then ((virgateref12_Right.f kj18 t15111).bind fun t15115 => (if t15115 = true then ((virgateref12_First.f t15112).bind fun t15116 => (if t15112 = t15116 then (virgatelaw12_NamesOf.j3 kj18 x0_1 (wrap64 (x3_18 + 1))) else (some false))) else (some false))) else (some false))) else (virgatelaw12_NamesOf.j3 kj18 x0_1 x3_18)) = some r := H
              have A29 := Aside0.mk A290
              clear A290
              have HC30 := Aside0.mk H
              clear H
              go_upto_if 66 with (first | ((with_reducible refine gate_callee (f := 64) rfl ?_); refine goesL_ (some 62) rfl rfl Tryd.func64 (by kernel_rfl) rfl #[.string x0_1] rfl (by (try simp only [List.map_toArray, List.map_cons, List.map_nil]); first | done | rfl | (simp only [List.length_drop, List.length_take]; rfl)) ?_; (with_reducible refine (names_OfAff.calls kj18 x0_1 t15111 t15112 t15113 _ A29.out).mono ?_); rintro e w31 ⟨rfl, hb⟩; refine ⟨_, rfl, ?_⟩; have n0_ := Aside0.mk (blk_below (g := gb15104) (o := .cells #[.int .u32 t15101, .int .i64 t15102] 46 (0, 0)) (by (with_reducible repeat (first | refine blk_drewN ?_ _ | refine blk_drew ?_ | refine blk_alloc ?_ _)); exact BK15104.out) hb); have n1_ := Aside0.mk (below_step (by repeat (first | (with_reducible first | exact HB.out | apply below_alloc | apply pw_below_drewN | apply below_drew1 | refine below_set ?_ GE15104.out) | exact HB.out)) hb); clear BK15104; clear HB; have BK15104 := n0_; have HB := n1_; clear n0_ n1_; (try clear hb); (try clear hb2); (try clear hk); (try clear hi)))
              (try simp only [Act.put, List.setIfInBounds_toArray, List.set_cons_zero, List.set_cons_succ])
              go_cut [3] (fun v3 wc => ∃ (kq : Nat) (x3_29 : Int), v3 = .int .i64 x3_29 ∧ Aside0 (virgatelaw12_NamesOf.j3 kq x0_1 x3_29 = some r) ∧ Aside0 (kq ≤ kj18) ∧ Aside0 (wc.heap[gb15104]? = some (.cells #[.int .u32 t15101, .int .i64 t15102] 46 (0, 0))) ∧ Aside0 (Below w.heap.size w wc))
              case first =>
                have H := HC30.out
                clear HC30
                by_cases c32 : t15113 = true
                · subst c32
                  have H1 : ((virgateref12_Aff.f kj18 t15111 t15112).bind fun t15114 => (if t15114.toList = x0_1.toList then ((virgateref12_Right.f kj18 t15111).bind fun t15115 => (if t15115 = true then ((virgateref12_First.f t15112).bind fun t15116 => (if t15112 = t15116 then (virgatelaw12_NamesOf.j3 kj18 x0_1 (wrap64 (x3_18 + 1))) else (some false))) else (some false))) else (some false))) = some r := by rw [if_pos rfl] at H; exact H
                  clear H
                  have H := H1
                  clear H1
                  replace H := Option.bind_eq_some_iff.mp H
                  obtain ⟨t15114, A330, H⟩ := H
                  replace H : (if t15114.toList = x0_1.toList then ((virgateref12_Right.f kj18 t15111).bind fun t15115 => (if t15115 = true then ((virgateref12_First.f t15112).bind fun t15116 => (if t15112 = t15116 then (virgatelaw12_NamesOf.j3 kj18 x0_1 (wrap64 (x3_18 + 1))) else (some false))) else (some false))) else (some false)) = some r := H
                  have A33 := Aside0.mk A330
                  clear A330
                  by_cases c34 : t15114.toList = x0_1.toList
                  · rw [if_pos c34] at H
                    have c34b0 : (t15114.toList == x0_1.toList) = true := beq_iff_eq.mpr c34
                    have c34b1 : (t15114.toList != x0_1.toList) = false := bne_eq_false_iff_eq.mpr c34
                    clear c34
                    (first | rw [c34b0] | (simp only [i64_w, i32_w]; rw [c34b0]) | skip)
                    replace H := Option.bind_eq_some_iff.mp H
                    obtain ⟨t15115, A350, H⟩ := H
                    replace H : (if t15115 = true then ((virgateref12_First.f t15112).bind fun t15116 => (if t15112 = t15116 then (virgatelaw12_NamesOf.j3 kj18 x0_1 (wrap64 (x3_18 + 1))) else (some false))) else (some false)) = some r := H
                    have A35 := Aside0.mk A350
                    clear A350
                    by_cases c36 : t15115 = true
                    · subst c36
                      have H1 : ((virgateref12_First.f t15112).bind fun t15116 => (if t15112 = t15116 then (virgatelaw12_NamesOf.j3 kj18 x0_1 (wrap64 (x3_18 + 1))) else (some false))) = some r := by rw [if_pos rfl] at H; exact H
                      clear H
                      have H := H1
                      clear H1
                      replace H := Option.bind_eq_some_iff.mp H
                      obtain ⟨t15116, A370, H⟩ := H
                      replace H : (if t15112 = t15116 then (virgatelaw12_NamesOf.j3 kj18 x0_1 (wrap64 (x3_18 + 1))) else (some false)) = some r := H
                      have A37 := Aside0.mk A370
                      clear A370
                      by_cases c38 : t15112 = t15116
                      · rw [if_pos c38] at H
                        have c38b0 : (t15112 == t15116) = true := beq_iff_eq.mpr c38
                        have c38b1 : (t15112 != t15116) = false := bne_eq_false_iff_eq.mpr c38
                        clear c38
                        have H' := Aside0.mk H
                        clear H
                        go_wp2_with (first | ((with_reducible refine gate_callee (f := 65) rfl ?_); refine goesL_ (some 69) rfl rfl Tryd.func65 (by kernel_rfl) rfl #[.string t15111, .int .u32 t15112] rfl (by (try simp only [List.map_toArray, List.map_cons, List.map_nil]); first | done | rfl | (simp only [List.length_drop, List.length_take]; rfl)) ?_; (with_reducible refine (virgateref12_Aff.calls kj18 t15111 t15112 t15114 _ A33.out).mono ?_); rintro e w39 ⟨rfl, hb⟩; refine ⟨_, rfl, ?_⟩; have n0_ := Aside0.mk (blk_below (g := gb15104) (o := .cells #[.int .u32 t15101, .int .i64 t15102] 46 (0, 0)) (by (with_reducible repeat (first | refine blk_drewN ?_ _ | refine blk_drew ?_ | refine blk_alloc ?_ _)); exact BK15104.out) hb); have n1_ := Aside0.mk (below_step (by repeat (first | (with_reducible first | exact HB.out | apply below_alloc | apply pw_below_drewN | apply below_drew1 | refine below_set ?_ GE15104.out) | exact HB.out)) hb); clear BK15104; clear HB; have BK15104 := n0_; have HB := n1_; clear n0_ n1_; (try clear hb); (try clear hb2); (try clear hk); (try clear hi)) | (go_at_call 66; (with_reducible refine (virgateref12_Right.calls kj18 t15111 true _ A35.out).mono ?_); rintro e w' ⟨rfl, ⟨nd, rfl⟩⟩) | (go_at_call 62; (with_reducible refine (virgateref12_First.calls t15112 t15116 _ A37.out).mono ?_); rintro e w' ⟨rfl, ⟨nd, rfl⟩⟩))
                        go_meet
                        case rel => exact ⟨_, (wrap64 (x3_18 + 1)), (by first | rfl | (simp; done) | (simp [*]; done)), H', ⟨by have := HJ1.out; have := HJ6.out; have := HJ18.out; first | omega | exact Nat.le_refl _⟩, ⟨by (with_reducible repeat (first | refine blk_drewN ?_ _ | refine blk_drew ?_ | refine blk_alloc ?_ _)); exact BK15104.out⟩, ⟨by repeat (first | (with_reducible first | exact HB.out | apply below_alloc | apply pw_below_drewN | apply below_drew1 | refine below_set ?_ GE15104.out) | exact HB.out)⟩⟩
                      · rw [if_neg c38] at H
                        have c38b0 : (t15112 == t15116) = false := beq_eq_false_iff_ne.mpr c38
                        have c38b1 : (t15112 != t15116) = true := bne_iff_ne.mpr c38
                        obtain rfl := Option.some.inj H
                        go_wp2_with (first | ((with_reducible refine gate_callee (f := 65) rfl ?_); refine goesL_ (some 69) rfl rfl Tryd.func65 (by kernel_rfl) rfl #[.string t15111, .int .u32 t15112] rfl (by (try simp only [List.map_toArray, List.map_cons, List.map_nil]); first | done | rfl | (simp only [List.length_drop, List.length_take]; rfl)) ?_; (with_reducible refine (virgateref12_Aff.calls kj18 t15111 t15112 t15114 _ A33.out).mono ?_); rintro e w40 ⟨rfl, hb⟩; refine ⟨_, rfl, ?_⟩; have n0_ := Aside0.mk (blk_below (g := gb15104) (o := .cells #[.int .u32 t15101, .int .i64 t15102] 46 (0, 0)) (by (with_reducible repeat (first | refine blk_drewN ?_ _ | refine blk_drew ?_ | refine blk_alloc ?_ _)); exact BK15104.out) hb); have n1_ := Aside0.mk (below_step (by repeat (first | (with_reducible first | exact HB.out | apply below_alloc | apply pw_below_drewN | apply below_drew1 | refine below_set ?_ GE15104.out) | exact HB.out)) hb); clear BK15104; clear HB; have BK15104 := n0_; have HB := n1_; clear n0_ n1_; (try clear hb); (try clear hb2); (try clear hk); (try clear hi)) | (go_at_call 66; (with_reducible refine (virgateref12_Right.calls kj18 t15111 true _ A35.out).mono ?_); rintro e w' ⟨rfl, ⟨nd, rfl⟩⟩) | (go_at_call 62; (with_reducible refine (virgateref12_First.calls t15112 t15116 _ A37.out).mono ?_); rintro e w' ⟨rfl, ⟨nd, rfl⟩⟩))
                        go_ret
                        exact ⟨by first | rfl | (simp [errW_none, errW_some] <;> rfl) | (simp [*, errW_none, errW_some] <;> rfl), by repeat (first | (with_reducible first | exact HB.out | apply below_alloc | apply pw_below_drewN | apply below_drew1 | refine below_set ?_ GE15104.out) | exact HB.out)⟩
                    · replace c36 := Bool.eq_false_iff.mpr c36
                      subst c36
                      have H1 : (some false) = some r := by rw [if_neg (show ¬ (false = true) by decide)] at H; exact H
                      clear H
                      have H := H1
                      clear H1
                      obtain rfl := Option.some.inj H
                      go_wp2_with (first | ((with_reducible refine gate_callee (f := 65) rfl ?_); refine goesL_ (some 69) rfl rfl Tryd.func65 (by kernel_rfl) rfl #[.string t15111, .int .u32 t15112] rfl (by (try simp only [List.map_toArray, List.map_cons, List.map_nil]); first | done | rfl | (simp only [List.length_drop, List.length_take]; rfl)) ?_; (with_reducible refine (virgateref12_Aff.calls kj18 t15111 t15112 t15114 _ A33.out).mono ?_); rintro e w41 ⟨rfl, hb⟩; refine ⟨_, rfl, ?_⟩; have n0_ := Aside0.mk (blk_below (g := gb15104) (o := .cells #[.int .u32 t15101, .int .i64 t15102] 46 (0, 0)) (by (with_reducible repeat (first | refine blk_drewN ?_ _ | refine blk_drew ?_ | refine blk_alloc ?_ _)); exact BK15104.out) hb); have n1_ := Aside0.mk (below_step (by repeat (first | (with_reducible first | exact HB.out | apply below_alloc | apply pw_below_drewN | apply below_drew1 | refine below_set ?_ GE15104.out) | exact HB.out)) hb); clear BK15104; clear HB; have BK15104 := n0_; have HB := n1_; clear n0_ n1_; (try clear hb); (try clear hb2); (try clear hk); (try clear hi)) | (go_at_call 66; (with_reducible refine (virgateref12_Right.calls kj18 t15111 false _ A35.out).mono ?_); rintro e w' ⟨rfl, ⟨nd, rfl⟩⟩))
                      go_ret
                      exact ⟨by first | rfl | (simp [errW_none, errW_some] <;> rfl) | (simp [*, errW_none, errW_some] <;> rfl), by repeat (first | (with_reducible first | exact HB.out | apply below_alloc | apply pw_below_drewN | apply below_drew1 | refine below_set ?_ GE15104.out) | exact HB.out)⟩
                  · rw [if_neg c34] at H
                    have c34b0 : (t15114.toList == x0_1.toList) = false := beq_eq_false_iff_ne.mpr c34
                    have c34b1 : (t15114.toList != x0_1.toList) = true := bne_iff_ne.mpr c34
                    (first | rw [c34b0] | (simp only [i64_w, i32_w]; rw [c34b0]) | skip)
                    obtain rfl := Option.some.inj H
                    go_wp2_with (first | ((with_reducible refine gate_callee (f := 65) rfl ?_); refine goesL_ (some 69) rfl rfl Tryd.func65 (by kernel_rfl) rfl #[.string t15111, .int .u32 t15112] rfl (by (try simp only [List.map_toArray, List.map_cons, List.map_nil]); first | done | rfl | (simp only [List.length_drop, List.length_take]; rfl)) ?_; (with_reducible refine (virgateref12_Aff.calls kj18 t15111 t15112 t15114 _ A33.out).mono ?_); rintro e w42 ⟨rfl, hb⟩; refine ⟨_, rfl, ?_⟩; have n0_ := Aside0.mk (blk_below (g := gb15104) (o := .cells #[.int .u32 t15101, .int .i64 t15102] 46 (0, 0)) (by (with_reducible repeat (first | refine blk_drewN ?_ _ | refine blk_drew ?_ | refine blk_alloc ?_ _)); exact BK15104.out) hb); have n1_ := Aside0.mk (below_step (by repeat (first | (with_reducible first | exact HB.out | apply below_alloc | apply pw_below_drewN | apply below_drew1 | refine below_set ?_ GE15104.out) | exact HB.out)) hb); clear BK15104; clear HB; have BK15104 := n0_; have HB := n1_; clear n0_ n1_; (try clear hb); (try clear hb2); (try clear hk); (try clear hi)))
                    go_ret
                    exact ⟨by first | rfl | (simp [errW_none, errW_some] <;> rfl) | (simp [*, errW_none, errW_some] <;> rfl), by repeat (first | (with_reducible first | exact HB.out | apply below_alloc | apply pw_below_drewN | apply below_drew1 | refine below_set ?_ GE15104.out) | exact HB.out)⟩
                · replace c32 := Bool.eq_false_iff.mpr c32
                  subst c32
                  have H1 : (virgatelaw12_NamesOf.j3 kj18 x0_1 x3_18) = some r := by rw [if_neg (show ¬ (false = true) by decide)] at H; exact H
                  clear H
                  have H := H1
                  clear H1
                  have H' := Aside0.mk H
                  clear H
                  go_wp2
                  go_meet
                  case rel => exact ⟨_, (x3_18), (by first | rfl | (simp; done) | (simp [*]; done)), H', ⟨by have := HJ1.out; have := HJ6.out; have := HJ18.out; first | omega | exact Nat.le_refl _⟩, ⟨by (with_reducible repeat (first | refine blk_drewN ?_ _ | refine blk_drew ?_ | refine blk_alloc ?_ _)); exact BK15104.out⟩, ⟨by repeat (first | (with_reducible first | exact HB.out | apply below_alloc | apply pw_below_drewN | apply below_drew1 | refine below_set ?_ GE15104.out) | exact HB.out)⟩⟩
              case rest =>
                clear HC30
                try clear c1
                try clear c2
                try clear p2
                try clear c3
                try clear c3b0
                try clear c3b1
                try clear c4
                try clear c4b0
                try clear c4b1
                try clear c5
                try clear c5b0
                try clear c5b1
                try clear c6
                try clear p6
                try clear c11
                try clear c13
                try clear c13b0
                try clear c13b1
                try clear c15
                try clear c21
                try clear c23
                try clear c23b0
                try clear c23b1
                try clear c25
                try clear c25b0
                try clear c25b1
                try clear c32
                try clear c34
                try clear c34b0
                try clear c34b1
                try clear c36
                try clear c38
                try clear c38b0
                try clear c38b1
                try clear hcz10_0
                try clear hcz10_1
                try clear hcz14_0
                try clear hcz14_1
                try clear hcz16_0
                try clear hcz16_1
                try clear hfz10_0
                try clear hfz10_1
                try clear hfz14_0
                try clear hfz14_1
                try clear hfz16_0
                try clear hfz16_1
                try clear p2
                try clear p6
                obtain ⟨kq, x3_29, rfl, HA, HJ29, BK15104, HB⟩ := hcut
                cases kq with
                | zero => exact absurd HA.out (by simp [virgatelaw12_NamesOf.j3])
                | succ kj29 =>
                  have H := HA.out
                  clear HA
                  simp only [virgatelaw12_NamesOf.j3] at H
                  replace H := Option.bind_eq_some_iff.mp H
                  obtain ⟨⟨t15117, t15118⟩, A430, H⟩ := H
                  replace H : (if t15118 = true then (if 7 + t15117.size ≤ 9223372036854775807 then (if ((⟨#[104, 97, 110, 100, 108, 101, 47]⟩ : ByteArray) ++ t15117).toList = x0_1.toList then ((virgateref12_Right.f kj29 t15117).bind fun t15119 => (if t15119 = true then (virgatelaw12_NamesOf.j4 kj29 x0_1 (wrap64 (x3_29 + 1))) else (some false))) else (some false)) else (none)) else (virgatelaw12_NamesOf.j4 kj29 x0_1 x3_29)) = some r := H
                  have A43 := Aside0.mk A430
                  clear A430
                  have HC44 := Aside0.mk H
                  clear H
                  go_upto_if 90 with (first | ((with_reducible refine gate_callee (f := 67) rfl ?_); refine goesL_ (some 87) rfl rfl Tryd.func67 (by kernel_rfl) rfl #[.string x0_1] rfl (by (try simp only [List.map_toArray, List.map_cons, List.map_nil]); first | done | rfl | (simp only [List.length_drop, List.length_take]; rfl)) ?_; (with_reducible refine (names_OfHandle.calls x0_1 t15117 t15118 _ A43.out).mono ?_); rintro e w45 ⟨rfl, hb⟩; refine ⟨_, rfl, ?_⟩; have n0_ := Aside0.mk (blk_below (g := gb15104) (o := .cells #[.int .u32 t15101, .int .i64 t15102] 46 (0, 0)) (by (with_reducible repeat (first | refine blk_drewN ?_ _ | refine blk_drew ?_ | refine blk_alloc ?_ _)); exact BK15104.out) hb); have n1_ := Aside0.mk (below_step (by repeat (first | (with_reducible first | exact HB.out | apply below_alloc | apply pw_below_drewN | apply below_drew1 | refine below_set ?_ GE15104.out) | exact HB.out)) hb); clear BK15104; clear HB; have BK15104 := n0_; have HB := n1_; clear n0_ n1_; (try clear hb); (try clear hb2); (try clear hk); (try clear hi)))
                  (try simp only [Act.put, List.setIfInBounds_toArray, List.set_cons_zero, List.set_cons_succ])
                  go_cut [3] (fun v3 wc => ∃ (kq : Nat) (x3_43 : Int), v3 = .int .i64 x3_43 ∧ Aside0 (virgatelaw12_NamesOf.j4 kq x0_1 x3_43 = some r) ∧ Aside0 (kq ≤ kj29) ∧ Aside0 (wc.heap[gb15104]? = some (.cells #[.int .u32 t15101, .int .i64 t15102] 46 (0, 0))) ∧ Aside0 (Below w.heap.size w wc))
                  case first =>
                    have H := HC44.out
                    clear HC44
                    by_cases c46 : t15118 = true
                    · subst c46
                      have H1 : (if 7 + t15117.size ≤ 9223372036854775807 then (if ((⟨#[104, 97, 110, 100, 108, 101, 47]⟩ : ByteArray) ++ t15117).toList = x0_1.toList then ((virgateref12_Right.f kj29 t15117).bind fun t15119 => (if t15119 = true then (virgatelaw12_NamesOf.j4 kj29 x0_1 (wrap64 (x3_29 + 1))) else (some false))) else (some false)) else (none)) = some r := by rw [if_pos rfl] at H; exact H
                      clear H
                      have H := H1
                      clear H1
                      by_cases c47 : 7 + t15117.size ≤ 9223372036854775807
                      · rw [if_pos c47] at H
                        have c47b0 := eq_true c47
                        have c47b1 : decide (7 + t15117.size ≤ 9223372036854775807) = true := decide_eq_true c47
                        try have c47b2 : (9223372036854775807 < 7 + t15117.size) = False := eq_false (Nat.not_lt.2 c47)
                        by_cases c48 : ((⟨#[104, 97, 110, 100, 108, 101, 47]⟩ : ByteArray) ++ t15117).toList = x0_1.toList
                        · rw [if_pos c48] at H
                          have c48b0 : (((⟨#[104, 97, 110, 100, 108, 101, 47]⟩ : ByteArray) ++ t15117).toList == x0_1.toList) = true := beq_iff_eq.mpr c48
                          have c48b1 : (((⟨#[104, 97, 110, 100, 108, 101, 47]⟩ : ByteArray) ++ t15117).toList != x0_1.toList) = false := bne_eq_false_iff_eq.mpr c48
                          clear c48
                          (first | rw [c48b0] | (simp only [i64_w, i32_w]; rw [c48b0]) | skip)
                          replace H := Option.bind_eq_some_iff.mp H
                          obtain ⟨t15119, A490, H⟩ := H
                          replace H : (if t15119 = true then (virgatelaw12_NamesOf.j4 kj29 x0_1 (wrap64 (x3_29 + 1))) else (some false)) = some r := H
                          have A49 := Aside0.mk A490
                          clear A490
                          by_cases c50 : t15119 = true
                          · subst c50
                            have H1 : (virgatelaw12_NamesOf.j4 kj29 x0_1 (wrap64 (x3_29 + 1))) = some r := by rw [if_pos rfl] at H; exact H
                            clear H
                            have H := H1
                            clear H1
                            have H' := Aside0.mk H
                            clear H
                            go_wp2_with (first | (go_at_call 66; (with_reducible refine (virgateref12_Right.calls kj29 t15117 true _ A49.out).mono ?_); rintro e w' ⟨rfl, ⟨nd, rfl⟩⟩))
                            go_meet
                            case rel => exact ⟨_, (wrap64 (x3_29 + 1)), (by first | rfl | (simp; done) | (simp [*]; done)), H', ⟨by have := HJ1.out; have := HJ6.out; have := HJ18.out; have := HJ29.out; first | omega | exact Nat.le_refl _⟩, ⟨by (with_reducible repeat (first | refine blk_drewN ?_ _ | refine blk_drew ?_ | refine blk_alloc ?_ _)); exact BK15104.out⟩, ⟨by repeat (first | (with_reducible first | exact HB.out | apply below_alloc | apply pw_below_drewN | apply below_drew1 | refine below_set ?_ GE15104.out) | exact HB.out)⟩⟩
                          · replace c50 := Bool.eq_false_iff.mpr c50
                            subst c50
                            have H1 : (some false) = some r := by rw [if_neg (show ¬ (false = true) by decide)] at H; exact H
                            clear H
                            have H := H1
                            clear H1
                            obtain rfl := Option.some.inj H
                            go_wp2_with (first | (go_at_call 66; (with_reducible refine (virgateref12_Right.calls kj29 t15117 false _ A49.out).mono ?_); rintro e w' ⟨rfl, ⟨nd, rfl⟩⟩))
                            go_ret
                            exact ⟨by first | rfl | (simp [errW_none, errW_some] <;> rfl) | (simp [*, errW_none, errW_some] <;> rfl), by repeat (first | (with_reducible first | exact HB.out | apply below_alloc | apply pw_below_drewN | apply below_drew1 | refine below_set ?_ GE15104.out) | exact HB.out)⟩
                        · rw [if_neg c48] at H
                          have c48b0 : (((⟨#[104, 97, 110, 100, 108, 101, 47]⟩ : ByteArray) ++ t15117).toList == x0_1.toList) = false := beq_eq_false_iff_ne.mpr c48
                          have c48b1 : (((⟨#[104, 97, 110, 100, 108, 101, 47]⟩ : ByteArray) ++ t15117).toList != x0_1.toList) = true := bne_iff_ne.mpr c48
                          (first | rw [c48b0] | (simp only [i64_w, i32_w]; rw [c48b0]) | skip)
                          obtain rfl := Option.some.inj H
                          go_wp2
                          go_ret
                          exact ⟨by first | rfl | (simp [errW_none, errW_some] <;> rfl) | (simp [*, errW_none, errW_some] <;> rfl), by repeat (first | (with_reducible first | exact HB.out | apply below_alloc | apply pw_below_drewN | apply below_drew1 | refine below_set ?_ GE15104.out) | exact HB.out)⟩
                      · rw [if_neg c47] at H
                        exact absurd H (by simp)
                    · replace c46 := Bool.eq_false_iff.mpr c46
                      subst c46
                      have H1 : (virgatelaw12_NamesOf.j4 kj29 x0_1 x3_29) = some r := by rw [if_neg (show ¬ (false = true) by decide)] at H; exact H
                      clear H
                      have H := H1
                      clear H1
                      have H' := Aside0.mk H
                      clear H
                      go_wp2
                      go_meet
                      case rel => exact ⟨_, (x3_29), (by first | rfl | (simp; done) | (simp [*]; done)), H', ⟨by have := HJ1.out; have := HJ6.out; have := HJ18.out; have := HJ29.out; first | omega | exact Nat.le_refl _⟩, ⟨by (with_reducible repeat (first | refine blk_drewN ?_ _ | refine blk_drew ?_ | refine blk_alloc ?_ _)); exact BK15104.out⟩, ⟨by repeat (first | (with_reducible first | exact HB.out | apply below_alloc | apply pw_below_drewN | apply below_drew1 | refine below_set ?_ GE15104.out) | exact HB.out)⟩⟩
                  case rest =>
                    clear HC44
                    try clear c1
                    try clear c2
                    try clear p2
                    try clear c3
                    try clear c3b0
                    try clear c3b1
                    try clear c4
                    try clear c4b0
                    try clear c4b1
                    try clear c5
                    try clear c5b0
                    try clear c5b1
                    try clear c6
                    try clear p6
                    try clear c11
                    try clear c13
                    try clear c13b0
                    try clear c13b1
                    try clear c15
                    try clear c21
                    try clear c23
                    try clear c23b0
                    try clear c23b1
                    try clear c25
                    try clear c25b0
                    try clear c25b1
                    try clear c32
                    try clear c34
                    try clear c34b0
                    try clear c34b1
                    try clear c36
                    try clear c38
                    try clear c38b0
                    try clear c38b1
                    try clear c46
                    try clear c47
                    try clear c47b0
                    try clear c47b1
                    try clear c47b2
                    try clear c48
                    try clear c48b0
                    try clear c48b1
                    try clear c50
                    try clear hcz10_0
                    try clear hcz10_1
                    try clear hcz14_0
                    try clear hcz14_1
                    try clear hcz16_0
                    try clear hcz16_1
                    try clear hfz10_0
                    try clear hfz10_1
                    try clear hfz14_0
                    try clear hfz14_1
                    try clear hfz16_0
                    try clear hfz16_1
                    try clear p2
                    try clear p6
                    obtain ⟨kq, x3_43, rfl, HA, HJ43, BK15104, HB⟩ := hcut
                    cases kq with
                    | zero => exact absurd HA.out (by simp [virgatelaw12_NamesOf.j4])
                    | succ kj43 =>
                      have H := HA.out
                      clear HA
                      simp only [virgatelaw12_NamesOf.j4] at H
                      replace H := Option.bind_eq_some_iff.mp H
                      obtain ⟨⟨t15120, t15121⟩, A510, H⟩ := H
                      replace H : (if t15121 = true then (if 5 + t15120.size ≤ 9223372036854775807 then (if ((⟨#[110, 111, 100, 101, 47]⟩ : ByteArray) ++ t15120).toList = x0_1.toList then ((virgateref12_Right.f kj43 t15120).bind fun t15122 => (if t15122 = true then (if (wrap64 (x3_43 + 1)) ≤ 1 then ((virgatelaw12_awake.f kj43).bind fun t15123 => (some t15123)) else (some false)) else (some false))) else (some false)) else (none)) else (if x3_43 ≤ 1 then ((virgatelaw12_awake.f kj43).bind fun t15124 => (some t15124)) else (some false))) = some r := H
                      have A51 := Aside0.mk A510
                      clear A510
                      by_cases c52 : t15121 = true
                      · subst c52
                        have H1 : (if 5 + t15120.size ≤ 9223372036854775807 then (if ((⟨#[110, 111, 100, 101, 47]⟩ : ByteArray) ++ t15120).toList = x0_1.toList then ((virgateref12_Right.f kj43 t15120).bind fun t15122 => (if t15122 = true then (if (wrap64 (x3_43 + 1)) ≤ 1 then ((virgatelaw12_awake.f kj43).bind fun t15123 => (some t15123)) else (some false)) else (some false))) else (some false)) else (none)) = some r := by rw [if_pos rfl] at H; exact H
                        clear H
                        have H := H1
                        clear H1
                        by_cases c53 : 5 + t15120.size ≤ 9223372036854775807
                        · rw [if_pos c53] at H
                          have c53b0 := eq_true c53
                          have c53b1 : decide (5 + t15120.size ≤ 9223372036854775807) = true := decide_eq_true c53
                          try have c53b2 : (9223372036854775807 < 5 + t15120.size) = False := eq_false (Nat.not_lt.2 c53)
                          by_cases c54 : ((⟨#[110, 111, 100, 101, 47]⟩ : ByteArray) ++ t15120).toList = x0_1.toList
                          · rw [if_pos c54] at H
                            have c54b0 : (((⟨#[110, 111, 100, 101, 47]⟩ : ByteArray) ++ t15120).toList == x0_1.toList) = true := beq_iff_eq.mpr c54
                            have c54b1 : (((⟨#[110, 111, 100, 101, 47]⟩ : ByteArray) ++ t15120).toList != x0_1.toList) = false := bne_eq_false_iff_eq.mpr c54
                            clear c54
                            replace H := Option.bind_eq_some_iff.mp H
                            obtain ⟨t15122, A550, H⟩ := H
                            replace H : (if t15122 = true then (if (wrap64 (x3_43 + 1)) ≤ 1 then ((virgatelaw12_awake.f kj43).bind fun t15123 => (some t15123)) else (some false)) else (some false)) = some r := H
                            have A55 := Aside0.mk A550
                            clear A550
                            by_cases c56 : t15122 = true
                            · subst c56
                              have H1 : (if (wrap64 (x3_43 + 1)) ≤ 1 then ((virgatelaw12_awake.f kj43).bind fun t15123 => (some t15123)) else (some false)) = some r := by rw [if_pos rfl] at H; exact H
                              clear H
                              have H := H1
                              clear H1
                              by_cases c57 : (wrap64 (x3_43 + 1)) ≤ 1
                              · rw [if_pos c57] at H
                                have c57b0 : decide ((wrap64 (x3_43 + 1)) ≤ 1) = true := decide_eq_true c57
                                clear c57
                                replace H := Option.bind_eq_some_iff.mp H
                                obtain ⟨t15123, A580, H⟩ := H
                                replace H : (some t15123) = some r := H
                                have A58 := Aside0.mk A580
                                clear A580
                                obtain rfl := Option.some.inj H
                                go_wp2_with (first | ((with_reducible refine gate_callee (f := 68) rfl ?_); refine goesL_ (some 104) rfl rfl Tryd.func68 (by kernel_rfl) rfl #[.string x0_1] rfl (by (try simp only [List.map_toArray, List.map_cons, List.map_nil]); first | done | rfl | (simp only [List.length_drop, List.length_take]; rfl)) ?_; (with_reducible refine (names_OfNode.calls x0_1 t15120 true _ A51.out).mono ?_); rintro e w59 ⟨rfl, hb⟩; refine ⟨_, rfl, ?_⟩; have n0_ := Aside0.mk (blk_below (g := gb15104) (o := .cells #[.int .u32 t15101, .int .i64 t15102] 46 (0, 0)) (by (with_reducible repeat (first | refine blk_drewN ?_ _ | refine blk_drew ?_ | refine blk_alloc ?_ _)); exact BK15104.out) hb); have n1_ := Aside0.mk (below_step (by repeat (first | (with_reducible first | exact HB.out | apply below_alloc | apply pw_below_drewN | apply below_drew1 | refine below_set ?_ GE15104.out) | exact HB.out)) hb); clear BK15104; clear HB; have BK15104 := n0_; have HB := n1_; clear n0_ n1_; (try clear hb); (try clear hb2); (try clear hk); (try clear hi)) | (go_at_call 66; (with_reducible refine (virgateref12_Right.calls kj43 t15120 true _ A55.out).mono ?_); rintro e w' ⟨rfl, ⟨nd, rfl⟩⟩) | (go_at_call 63; (with_reducible refine (virgatelaw12_awake.calls kj43  t15123 _ A58.out).mono ?_); rintro e w60 ⟨rfl, hb⟩; have n0_ := Aside0.mk (blk_below (g := gb15104) (o := .cells #[.int .u32 t15101, .int .i64 t15102] 46 (0, 0)) (by (with_reducible repeat (first | refine blk_drewN ?_ _ | refine blk_drew ?_ | refine blk_alloc ?_ _)); exact BK15104.out) hb); have n1_ := Aside0.mk (below_step (by repeat (first | (with_reducible first | exact HB.out | apply below_alloc | apply pw_below_drewN | apply below_drew1 | refine below_set ?_ GE15104.out) | exact HB.out)) hb); clear BK15104; clear HB; have BK15104 := n0_; have HB := n1_; clear n0_ n1_; (try clear hb); (try clear hb2); (try clear hk); (try clear hi)))
                                go_ret
                                exact ⟨by first | rfl | (simp [errW_none, errW_some] <;> rfl) | (simp [*, errW_none, errW_some] <;> rfl), by repeat (first | (with_reducible first | exact HB.out | apply below_alloc | apply pw_below_drewN | apply below_drew1 | refine below_set ?_ GE15104.out) | exact HB.out)⟩
                              · rw [if_neg c57] at H
                                have c57b0 : decide ((wrap64 (x3_43 + 1)) ≤ 1) = false := decide_eq_false c57
                                clear c57
                                obtain rfl := Option.some.inj H
                                go_wp2_with (first | ((with_reducible refine gate_callee (f := 68) rfl ?_); refine goesL_ (some 104) rfl rfl Tryd.func68 (by kernel_rfl) rfl #[.string x0_1] rfl (by (try simp only [List.map_toArray, List.map_cons, List.map_nil]); first | done | rfl | (simp only [List.length_drop, List.length_take]; rfl)) ?_; (with_reducible refine (names_OfNode.calls x0_1 t15120 true _ A51.out).mono ?_); rintro e w61 ⟨rfl, hb⟩; refine ⟨_, rfl, ?_⟩; have n0_ := Aside0.mk (blk_below (g := gb15104) (o := .cells #[.int .u32 t15101, .int .i64 t15102] 46 (0, 0)) (by (with_reducible repeat (first | refine blk_drewN ?_ _ | refine blk_drew ?_ | refine blk_alloc ?_ _)); exact BK15104.out) hb); have n1_ := Aside0.mk (below_step (by repeat (first | (with_reducible first | exact HB.out | apply below_alloc | apply pw_below_drewN | apply below_drew1 | refine below_set ?_ GE15104.out) | exact HB.out)) hb); clear BK15104; clear HB; have BK15104 := n0_; have HB := n1_; clear n0_ n1_; (try clear hb); (try clear hb2); (try clear hk); (try clear hi)) | (go_at_call 66; (with_reducible refine (virgateref12_Right.calls kj43 t15120 true _ A55.out).mono ?_); rintro e w' ⟨rfl, ⟨nd, rfl⟩⟩))
                                go_ret
                                exact ⟨by first | rfl | (simp [errW_none, errW_some] <;> rfl) | (simp [*, errW_none, errW_some] <;> rfl), by repeat (first | (with_reducible first | exact HB.out | apply below_alloc | apply pw_below_drewN | apply below_drew1 | refine below_set ?_ GE15104.out) | exact HB.out)⟩
                            · replace c56 := Bool.eq_false_iff.mpr c56
                              subst c56
                              have H1 : (some false) = some r := by rw [if_neg (show ¬ (false = true) by decide)] at H; exact H
                              clear H
                              have H := H1
                              clear H1
                              obtain rfl := Option.some.inj H
                              go_wp2_with (first | ((with_reducible refine gate_callee (f := 68) rfl ?_); refine goesL_ (some 104) rfl rfl Tryd.func68 (by kernel_rfl) rfl #[.string x0_1] rfl (by (try simp only [List.map_toArray, List.map_cons, List.map_nil]); first | done | rfl | (simp only [List.length_drop, List.length_take]; rfl)) ?_; (with_reducible refine (names_OfNode.calls x0_1 t15120 true _ A51.out).mono ?_); rintro e w62 ⟨rfl, hb⟩; refine ⟨_, rfl, ?_⟩; have n0_ := Aside0.mk (blk_below (g := gb15104) (o := .cells #[.int .u32 t15101, .int .i64 t15102] 46 (0, 0)) (by (with_reducible repeat (first | refine blk_drewN ?_ _ | refine blk_drew ?_ | refine blk_alloc ?_ _)); exact BK15104.out) hb); have n1_ := Aside0.mk (below_step (by repeat (first | (with_reducible first | exact HB.out | apply below_alloc | apply pw_below_drewN | apply below_drew1 | refine below_set ?_ GE15104.out) | exact HB.out)) hb); clear BK15104; clear HB; have BK15104 := n0_; have HB := n1_; clear n0_ n1_; (try clear hb); (try clear hb2); (try clear hk); (try clear hi)) | (go_at_call 66; (with_reducible refine (virgateref12_Right.calls kj43 t15120 false _ A55.out).mono ?_); rintro e w' ⟨rfl, ⟨nd, rfl⟩⟩))
                              go_ret
                              exact ⟨by first | rfl | (simp [errW_none, errW_some] <;> rfl) | (simp [*, errW_none, errW_some] <;> rfl), by repeat (first | (with_reducible first | exact HB.out | apply below_alloc | apply pw_below_drewN | apply below_drew1 | refine below_set ?_ GE15104.out) | exact HB.out)⟩
                          · rw [if_neg c54] at H
                            have c54b0 : (((⟨#[110, 111, 100, 101, 47]⟩ : ByteArray) ++ t15120).toList == x0_1.toList) = false := beq_eq_false_iff_ne.mpr c54
                            have c54b1 : (((⟨#[110, 111, 100, 101, 47]⟩ : ByteArray) ++ t15120).toList != x0_1.toList) = true := bne_iff_ne.mpr c54
                            obtain rfl := Option.some.inj H
                            go_wp2_with (first | ((with_reducible refine gate_callee (f := 68) rfl ?_); refine goesL_ (some 104) rfl rfl Tryd.func68 (by kernel_rfl) rfl #[.string x0_1] rfl (by (try simp only [List.map_toArray, List.map_cons, List.map_nil]); first | done | rfl | (simp only [List.length_drop, List.length_take]; rfl)) ?_; (with_reducible refine (names_OfNode.calls x0_1 t15120 true _ A51.out).mono ?_); rintro e w63 ⟨rfl, hb⟩; refine ⟨_, rfl, ?_⟩; have n0_ := Aside0.mk (blk_below (g := gb15104) (o := .cells #[.int .u32 t15101, .int .i64 t15102] 46 (0, 0)) (by (with_reducible repeat (first | refine blk_drewN ?_ _ | refine blk_drew ?_ | refine blk_alloc ?_ _)); exact BK15104.out) hb); have n1_ := Aside0.mk (below_step (by repeat (first | (with_reducible first | exact HB.out | apply below_alloc | apply pw_below_drewN | apply below_drew1 | refine below_set ?_ GE15104.out) | exact HB.out)) hb); clear BK15104; clear HB; have BK15104 := n0_; have HB := n1_; clear n0_ n1_; (try clear hb); (try clear hb2); (try clear hk); (try clear hi)))
                            go_ret
                            exact ⟨by first | rfl | (simp [errW_none, errW_some] <;> rfl) | (simp [*, errW_none, errW_some] <;> rfl), by repeat (first | (with_reducible first | exact HB.out | apply below_alloc | apply pw_below_drewN | apply below_drew1 | refine below_set ?_ GE15104.out) | exact HB.out)⟩
                        · rw [if_neg c53] at H
                          exact absurd H (by simp)
                      · replace c52 := Bool.eq_false_iff.mpr c52
                        subst c52
                        have H1 : (if x3_43 ≤ 1 then ((virgatelaw12_awake.f kj43).bind fun t15124 => (some t15124)) else (some false)) = some r := by rw [if_neg (show ¬ (false = true) by decide)] at H; exact H
                        clear H
                        have H := H1
                        clear H1
                        by_cases c64 : x3_43 ≤ 1
                        · rw [if_pos c64] at H
                          have c64b0 : decide (x3_43 ≤ 1) = true := decide_eq_true c64
                          clear c64
                          replace H := Option.bind_eq_some_iff.mp H
                          obtain ⟨t15124, A650, H⟩ := H
                          replace H : (some t15124) = some r := H
                          have A65 := Aside0.mk A650
                          clear A650
                          obtain rfl := Option.some.inj H
                          go_wp2_with (first | ((with_reducible refine gate_callee (f := 68) rfl ?_); refine goesL_ (some 104) rfl rfl Tryd.func68 (by kernel_rfl) rfl #[.string x0_1] rfl (by (try simp only [List.map_toArray, List.map_cons, List.map_nil]); first | done | rfl | (simp only [List.length_drop, List.length_take]; rfl)) ?_; (with_reducible refine (names_OfNode.calls x0_1 t15120 false _ A51.out).mono ?_); rintro e w66 ⟨rfl, hb⟩; refine ⟨_, rfl, ?_⟩; have n0_ := Aside0.mk (blk_below (g := gb15104) (o := .cells #[.int .u32 t15101, .int .i64 t15102] 46 (0, 0)) (by (with_reducible repeat (first | refine blk_drewN ?_ _ | refine blk_drew ?_ | refine blk_alloc ?_ _)); exact BK15104.out) hb); have n1_ := Aside0.mk (below_step (by repeat (first | (with_reducible first | exact HB.out | apply below_alloc | apply pw_below_drewN | apply below_drew1 | refine below_set ?_ GE15104.out) | exact HB.out)) hb); clear BK15104; clear HB; have BK15104 := n0_; have HB := n1_; clear n0_ n1_; (try clear hb); (try clear hb2); (try clear hk); (try clear hi)) | (go_at_call 63; (with_reducible refine (virgatelaw12_awake.calls kj43  t15124 _ A65.out).mono ?_); rintro e w67 ⟨rfl, hb⟩; have n0_ := Aside0.mk (blk_below (g := gb15104) (o := .cells #[.int .u32 t15101, .int .i64 t15102] 46 (0, 0)) (by (with_reducible repeat (first | refine blk_drewN ?_ _ | refine blk_drew ?_ | refine blk_alloc ?_ _)); exact BK15104.out) hb); have n1_ := Aside0.mk (below_step (by repeat (first | (with_reducible first | exact HB.out | apply below_alloc | apply pw_below_drewN | apply below_drew1 | refine below_set ?_ GE15104.out) | exact HB.out)) hb); clear BK15104; clear HB; have BK15104 := n0_; have HB := n1_; clear n0_ n1_; (try clear hb); (try clear hb2); (try clear hk); (try clear hi)))
                          go_ret
                          exact ⟨by first | rfl | (simp [errW_none, errW_some] <;> rfl) | (simp [*, errW_none, errW_some] <;> rfl), by repeat (first | (with_reducible first | exact HB.out | apply below_alloc | apply pw_below_drewN | apply below_drew1 | refine below_set ?_ GE15104.out) | exact HB.out)⟩
                        · rw [if_neg c64] at H
                          have c64b0 : decide (x3_43 ≤ 1) = false := decide_eq_false c64
                          clear c64
                          obtain rfl := Option.some.inj H
                          go_wp2_with (first | ((with_reducible refine gate_callee (f := 68) rfl ?_); refine goesL_ (some 104) rfl rfl Tryd.func68 (by kernel_rfl) rfl #[.string x0_1] rfl (by (try simp only [List.map_toArray, List.map_cons, List.map_nil]); first | done | rfl | (simp only [List.length_drop, List.length_take]; rfl)) ?_; (with_reducible refine (names_OfNode.calls x0_1 t15120 false _ A51.out).mono ?_); rintro e w68 ⟨rfl, hb⟩; refine ⟨_, rfl, ?_⟩; have n0_ := Aside0.mk (blk_below (g := gb15104) (o := .cells #[.int .u32 t15101, .int .i64 t15102] 46 (0, 0)) (by (with_reducible repeat (first | refine blk_drewN ?_ _ | refine blk_drew ?_ | refine blk_alloc ?_ _)); exact BK15104.out) hb); have n1_ := Aside0.mk (below_step (by repeat (first | (with_reducible first | exact HB.out | apply below_alloc | apply pw_below_drewN | apply below_drew1 | refine below_set ?_ GE15104.out) | exact HB.out)) hb); clear BK15104; clear HB; have BK15104 := n0_; have HB := n1_; clear n0_ n1_; (try clear hb); (try clear hb2); (try clear hk); (try clear hi)))
                          go_ret
                          exact ⟨by first | rfl | (simp [errW_none, errW_some] <;> rfl) | (simp [*, errW_none, errW_some] <;> rfl), by repeat (first | (with_reducible first | exact HB.out | apply below_alloc | apply pw_below_drewN | apply below_drew1 | refine below_set ?_ GE15104.out) | exact HB.out)⟩
end Go.Proofs.YtcdopgkkieenjaaDoor.V
end

-- LNOf
section
/- NamesOf: the plain law and the walk. -/
namespace Go.Proofs.YtcdopgkkieenjaaDoor.V
open Go.RowKit Go.Proofs.YtcdopgkkieenjaaDoorW.PrintWords Go.Proofs.YtcdopgkkieenjaaDoorW.PrintLast Go.Proofs.YtcdopgkkieenjaaDoorW.PrintMore
set_option linter.unusedVariables false
set_option linter.unusedSimpArgs false
/-- A text's first sign. -/
def hd (s : ByteArray) : Option UInt8 := s.data.toList.head?
theorem hd_app (p t : ByteArray) (c : UInt8) (h : p.data.toList.head? = some c) : hd (p ++ t) = some c := by
  unfold hd
  rw [app_data, List.head?_append, h]
  rfl
theorem ite_list {α : Type} {x y : ByteArray} (h : x = y) (a b : α) : (if x.toList = y.toList then a else b) = a := by rw [if_pos (by rw [h])]
/-- So many kinds so far, none of them with one of these first signs. -/
def Cnt (key : ByteArray) (x : Int) (l : List UInt8) : Prop := x = 0 ∨ (x = 1 ∧ ∀ c ∈ l, hd key ≠ some c)
theorem Cnt.le {key : ByteArray} {x : Int} {l : List UInt8} (h : Cnt key x l) : 0 ≤ x ∧ x ≤ 1 := by
  rcases h with h | ⟨h, _⟩ <;> omega
theorem Cnt.skip {key : ByteArray} {x : Int} {c : UInt8} {l : List UInt8} (h : Cnt key x (c :: l)) : Cnt key x l := by
  rcases h with h | ⟨h, h2⟩
  · exact .inl h
  · exact .inr ⟨h, fun d hd => h2 d (List.mem_cons_of_mem _ hd)⟩
theorem Cnt.one {key : ByteArray} {x : Int} {c : UInt8} {l : List UInt8} (h : Cnt key x (c :: l)) (hc : hd key = some c) (hl : c ∉ l) : x = 0 ∧ Cnt key (wrap64 (x + 1)) l := by
  rcases h with h | ⟨_, h2⟩
  · subst h
    refine ⟨rfl, .inr ⟨by unfold wrap64; omega, fun d hd2 => ?_⟩⟩
    rw [hc]
    intro e
    exact hl (Option.some.inj e ▸ hd2)
  · exact absurd hc (h2 c (by simp))
theorem awake12 (k : Nat) (hk : 8 ≤ k) : ((virgatelaw12_awake.f k).bind fun t => some t) = some true := by rw [awake12_f k hk]; rfl
theorem of_j4 (key : ByteArray) (hs : key.size ≤ 120) (x : Int) (h : Cnt key x [110]) (k : Nat) (hk : 150 ≤ k) : virgatelaw12_NamesOf.j4 (k + 1) key x = some true := by
  rw [virgatelaw12_NamesOf.j4]
  unfold names_OfNode.f
  rcases ofName_any key ⟨#[110, 111, 100, 101, 47]⟩ with ⟨s, hr, he, hf⟩ | hf
  · have hsz := right_size hr
    obtain ⟨rfl, h2⟩ := h.one (by rw [he]; exact hd_app _ _ _ rfl) (by simp)
    rw [hf, Option.bind_some, Option.bind_some, if_pos rfl, if_pos (by dsimp only; omega), ite_list he.symm, r12_f s (by omega) k (by omega), Option.bind_some, hr, if_pos rfl, if_pos (by unfold wrap64; omega), awake12 k (by omega)]
  · rw [hf, Option.bind_some, Option.bind_some, if_neg (by decide), if_pos h.le.2, awake12 k (by omega)]
theorem of_j3 (key : ByteArray) (hs : key.size ≤ 120) (x : Int) (h : Cnt key x [104, 110]) (k : Nat) (hk : 151 ≤ k) : virgatelaw12_NamesOf.j3 (k + 1) key x = some true := by
  obtain ⟨k, rfl⟩ : ∃ m, k = m + 1 := ⟨k - 1, by omega⟩
  rw [virgatelaw12_NamesOf.j3]
  unfold names_OfHandle.f
  rcases ofName_any key ⟨#[104, 97, 110, 100, 108, 101, 47]⟩ with ⟨s, hr, he, hf⟩ | hf
  · have hsz := right_size hr
    obtain ⟨_, h2⟩ := h.one (by rw [he]; exact hd_app _ _ _ rfl) (by simp)
    rw [hf, Option.bind_some, Option.bind_some, if_pos rfl, if_pos (by dsimp only; omega), ite_list he.symm, r12_f s (by omega) (k + 1) (by omega), Option.bind_some, hr, if_pos rfl]
    exact of_j4 key hs _ h2 k (by omega)
  · rw [hf, Option.bind_some, Option.bind_some, if_neg (by decide)]
    exact of_j4 key hs _ h.skip k (by omega)
theorem of_j2 (key : ByteArray) (hs : key.size ≤ 120) (x : Int) (h : Cnt key x [97, 104, 110]) (k : Nat) (hk : 152 ≤ k) : virgatelaw12_NamesOf.j2 (k + 1) key x = some true := by
  obtain ⟨k, rfl⟩ : ∃ m, k = m + 1 := ⟨k - 1, by omega⟩
  rw [virgatelaw12_NamesOf.j2]
  rcases ofAff_any key (by omega) (k + 1) (by omega) with ⟨s, v, hr, hv, hfv, he, hf⟩ | hf
  · have hsz := right_size hr
    obtain ⟨_, h2⟩ := h.one (by rw [he, affT_parts]; exact hd_app _ _ _ rfl) (by simp)
    rw [hf, Option.bind_some, if_pos rfl, raff_f s (by omega) v hv (k + 1) (by omega), Option.bind_some, ite_list he.symm, r12_f s (by omega) (k + 1) (by omega), Option.bind_some, hr, if_pos rfl, rfirst_f v hv, Option.bind_some, hfv, if_pos rfl]
    exact of_j3 key hs _ h2 k (by omega)
  · rw [hf, Option.bind_some, if_neg (by decide)]
    exact of_j3 key hs _ h.skip k (by omega)
theorem of_j1 (key : ByteArray) (hs : key.size ≤ 120) (x : Int) (h : Cnt key x [98, 97, 104, 110]) (k : Nat) (hk : 153 ≤ k) : virgatelaw12_NamesOf.j1 (k + 1) key x = some true := by
  obtain ⟨k, rfl⟩ : ∃ m, k = m + 1 := ⟨k - 1, by omega⟩
  rw [virgatelaw12_NamesOf.j1]
  rcases ofBlock_any key (by omega) (k + 1) (by omega) with ⟨v, hv, hfv, he, hf⟩ | hf
  · obtain ⟨_, h2⟩ := h.one (by rw [he]; exact hd_app _ _ _ rfl) (by simp)
    rw [hf, Option.bind_some, if_pos rfl, rblock_f v hv (k + 1) (by omega), Option.bind_some, hfv, ite_list he.symm, rfirst_f v hv, Option.bind_some, hfv, if_pos rfl]
    exact of_j2 key hs _ h2 k (by omega)
  · rw [hf, Option.bind_some, if_neg (by decide)]
    exact of_j2 key hs _ h.skip k (by omega)
theorem of_j0 (key : ByteArray) (hs : key.size ≤ 120) (k : Nat) (hk : 154 ≤ k) : virgatelaw12_NamesOf.j0 (k + 1) key = some true := by
  obtain ⟨k, rfl⟩ : ∃ m, k = m + 1 := ⟨k - 1, by omega⟩
  rw [virgatelaw12_NamesOf.j0]
  rcases ofPool_any key (by omega) (k + 1) (by omega) with ⟨v, n, hv, hn, hm, he, hf⟩ | hf
  · have hp := rpool_f v hv (n : Int) (k + 1) (by omega)
    rw [if_pos ⟨hm, by omega⟩, Int.toNat_natCast, ← he] at hp
    rw [hf, Option.bind_some, if_pos rfl, hp, Option.bind_some, if_pos rfl]
    have hc : Cnt key (0 + 1) [98, 97, 104, 110] := by
      refine Or.inr (And.intro (by omega) (fun c hc => ?_))
      rw [he, hd_app _ _ 112 rfl]
      intro e
      rw [← Option.some.inj e] at hc
      revert hc
      decide
    exact of_j1 key hs _ hc k (by omega)
  · rw [hf, Option.bind_some, if_neg (by decide)]
    exact of_j1 key hs _ (.inl rfl) k (by omega)
theorem namesOf_law (key : ByteArray) : virgatelaw12_NamesOf.f 200 key = some true := by
  unfold virgatelaw12_NamesOf.f
  by_cases h : (key.size : Int) > 120
  · rw [if_pos h, if_pos (by omega), if_pos (by omega)]
    exact of_j0 _ (by rw [ByteArray.size_extract]; omega) 199 (by omega)
  · rw [if_neg h]
    exact of_j0 key (by omega) 199 (by omega)
theorem namesOf_walk (a0 : ByteArray) (w : World) (h : a0.size ≤ 140737488351232) : Calls Tryd.prog 15 #[.string a0] w fun e w' => e = .returned (.bool true) ∧ Below w.heap.size w w' :=
  virgatelaw12_NamesOf.calls 200 _ true w (namesOf_law a0)
end Go.Proofs.YtcdopgkkieenjaaDoor.V
end

