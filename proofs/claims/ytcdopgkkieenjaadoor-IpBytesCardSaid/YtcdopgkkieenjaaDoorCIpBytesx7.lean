/- The law IpBytes for every input: texts of ours, put together (part 8 of 9). No further condition. -/
import Derived.Test.YtcdopgkkieenjaaDoorCB3
import Derived.Test.YtcdopgkkieenjaaDoorCB4
import Derived.Test.YtcdopgkkieenjaaDoorCIpBytesx6
import Derived.Test.YtcdopgkkieenjaaDoorCIpBytesx5
-- VFVirgateref02Parse
section
-- PRINTED by print.py (a twelfth state) out of the translation. Not trusted: Lean checks it.
namespace Go.Proofs.YtcdopgkkieenjaaDoor.V
open Go.RowKit Go.Proofs.YtcdopgkkieenjaaDoorW.PrintWords Go.Proofs.YtcdopgkkieenjaaDoorW.PrintLast Go.Proofs.YtcdopgkkieenjaaDoorW.PrintMore
attribute [local go_sem] max2_int min2_int max_two min_two max_three min_three max_four min_four   -- for this text's walks alone
set_option linter.unusedVariables false
set_option linter.unusedSimpArgs false

/-! ### virgateref02_Parse: function 39 -/
def virgateref02_Parse.l0 : Nat → ByteArray → Int → Option (Int × Int × Bool)
  | 0, _, _ => none
  | k + 1, x0, x4 => if x4 < (x0.size : Int) then (if 0 ≤ x4 then (if (bt x0 x4) = 47 then (if x4 ≤ (x0.size : Int) then ((virgateref01_Parse.f k (x0.extract 0 (x4 : Int).toNat)).bind fun bt39102 => (if 0 ≤ (wrap64 (x4 + 1)) then (if (wrap64 (x4 + 1)) ≤ (x0.size : Int) then ((virgateref01_Value.f k (x0.extract ((wrap64 (x4 + 1)) : Int).toNat x0.size) 32).bind fun bt39104 => (if bt39102.2 = true then (if bt39104.2 = true then ((virgateref02_May.f k bt39102.1 bt39104.1).bind fun t39107 => (if t39107 = true then (some (bt39102.1, bt39104.1, true)) else (some (0, 0, false)))) else (some (0, 0, false))) else (some (0, 0, false)))) else (none)) else (none))) else (none)) else (virgateref02_Parse.l0 k x0 (wrap64 (x4 + 1)))) else (none)) else (some (0, 0, false))
def virgateref02_Parse.f (k : Nat) (a0 : ByteArray) : Option (Int × Int × Bool) := virgateref02_Parse.l0 k a0 0
theorem virgateref02_Parse.mono_l : ∀ k, (∀ y0 y1, LeO (virgateref02_Parse.l0 k y0 y1) (virgateref02_Parse.l0 (k + 1) y0 y1))
  | 0 => fun _ _ r h => by simp [virgateref02_Parse.l0] at h
  | k + 1 => by
    have ih0 := virgateref02_Parse.mono_l k
    · intro y0 y1
      unfold virgateref02_Parse.l0
      repeat' first
      | (with_reducible exact ih0 _ _)
      | (with_reducible exact virgateref01_Parse.mono _ _)
      | (with_reducible exact virgateref01_Value.mono _ _ _)
      | (with_reducible exact virgateref02_May.mono _ _ _)
      | (with_reducible exact LeO.refl _)
      | (with_reducible exact LeO.none _)
      | (with_reducible refine LeO.ite ?_ ?_)
      | (with_reducible refine LeO.bind ?_ (fun _ => ?_))
      | exact ih0 _ _
      | exact virgateref01_Parse.mono _ _
      | exact virgateref01_Value.mono _ _ _
      | exact virgateref02_May.mono _ _ _
      | exact LeO.none _
      | refine LeO.ite ?_ ?_
      | refine LeO.bind ?_ (fun _ => ?_)
theorem virgateref02_Parse.mono : ∀ a0 k, LeO (virgateref02_Parse.f k a0) (virgateref02_Parse.f (k + 1) a0) := by
  intro a0 k
  have ih0 := virgateref02_Parse.mono_l k
  unfold virgateref02_Parse.f
  repeat' first
      | (with_reducible exact ih0 _ _)
      | (with_reducible exact virgateref01_Parse.mono _ _)
      | (with_reducible exact virgateref01_Value.mono _ _ _)
      | (with_reducible exact virgateref02_May.mono _ _ _)
      | (with_reducible exact LeO.refl _)
      | (with_reducible exact LeO.none _)
      | (with_reducible refine LeO.ite ?_ ?_)
      | (with_reducible refine LeO.bind ?_ (fun _ => ?_))
      | exact ih0 _ _
      | exact virgateref01_Parse.mono _ _
      | exact virgateref01_Value.mono _ _ _
      | exact virgateref02_May.mono _ _ _
      | exact LeO.none _
      | refine LeO.ite ?_ ?_
      | refine LeO.bind ?_ (fun _ => ?_)
set_option maxHeartbeats 8000000 in
set_option maxRecDepth 100000 in
theorem virgateref02_Parse.calls (k : Nat) (a0 : ByteArray) (r1 : Int) (r2 : Int) (r3 : Bool) (w : World) (h : virgateref02_Parse.f k a0 = some (r1, r2, r3)) :
    Calls Tryd.prog 39 #[.string a0] w fun e w' => e = .returned (.tuple #[.agg #[.int .u32 r1, .int .i64 r2], .bool r3]) ∧ Below w.heap.size w w' := by
  have hu44 := Tryd.underlying44
  have HB := Aside0.mk (Below.refl w.heap.size w)
  have H : (virgateref02_Parse.l0 k a0 0) = some (r1, r2, r3) := h
  clear h
  have H' := Aside0.mk H
  clear H
  go_enter Tryd.func39, Tryd.ntmps39
  go_wp2_with (first | ((with_reducible refine gate_dst (N := 2) rfl ?_); refine box_event ?hg (N := 2) ?hd (cs := #[.int .u32 0, .int .i64 0]) (t := 44) ?hr ?_; (case hd => rfl); (case hg => rfl); (case hr => first | (go_simp; done) | (go_simp; rfl)); intro gb39101 hg w2 hbox hb; have n0_ := Aside0.mk (below_step (by repeat (first | (with_reducible first | exact HB.out | apply below_alloc | apply pw_below_drewN | apply below_drew1) | exact HB.out)) hb); have n1_ := Aside0.mk (hbox); have n2_ := Aside0.mk ((by rw [hg]; exact (below_size (by repeat (first | (with_reducible first | exact HB.out | apply below_alloc | apply pw_below_drewN | apply below_drew1) | exact HB.out))) : w.heap.size ≤ gb39101)); have n3_ := Aside0.mk ((by rw [hg]; exact (below_size (by repeat (first | (with_reducible first | exact HB.out | apply below_alloc | apply pw_below_drewN | apply below_drew1) | exact HB.out))) : w.heap.size ≤ gb39101)); clear HB; have HB := n0_; have BK39101 := n1_; have GW39101 := n2_; have GE39101 := n3_; clear n0_ n1_ n2_ n3_; clear hb hbox hg))
  go_loopg [4] k (fun kq v4 w' => ∃ (x4_1 : Int) (x39102000_1 : Int) (x39102001_1 : Int), v4 = .int .i64 x4_1 ∧ Aside0 (virgateref02_Parse.l0 kq a0 x4_1 = some (r1, r2, r3)) ∧ Aside0 (kq ≤ k) ∧ Aside0 (w'.heap[gb39101]? = some (.cells #[.int .u32 x39102000_1, .int .i64 x39102001_1] 44 (0, 0))) ∧ Aside0 (Below w.heap.size w w'))
  case atStart => exact ⟨(0), (0), (0), (by first | rfl | (simp; done) | (simp [*]; done)), H', ⟨Nat.le_refl _⟩, ⟨by (with_reducible repeat (first | refine blk_drewN ?_ _ | refine blk_drew ?_ | refine blk_alloc ?_ _)); exact BK39101.out⟩, ⟨by repeat (first | (with_reducible first | exact HB.out | apply below_alloc | apply pw_below_drewN | apply below_drew1 | refine below_set ?_ GE39101.out) | exact HB.out)⟩⟩
  case round =>
    clear H'
    try clear p2
    obtain ⟨x4_1, x39102000_1, x39102001_1, rfl, HA, HK1, BK39101, HB⟩ := hrel
    cases gk with
    | zero => exact absurd HA.out (by simp [virgateref02_Parse.l0])
    | succ k1 =>
      have H := HA.out
      clear HA
      simp only [virgateref02_Parse.l0] at H
      by_cases c3 : x4_1 < (a0.size : Int)
      · rw [if_pos c3] at H
        have c3b0 : decide (x4_1 < (a0.size : Int)) = true := decide_eq_true c3
        clear c3
        by_cases c4 : 0 ≤ x4_1
        · rw [if_pos c4] at H
          have c4b0 : decide (0 ≤ x4_1) = true := decide_eq_true c4
          clear c4
          by_cases c6 : (bt a0 x4_1) = 47
          · rw [if_pos c6] at H
            have c6b0 : ((bt a0 x4_1) == 47) = true := beq_iff_eq.mpr c6
            have c6b1 : ((bt a0 x4_1) != 47) = false := bne_eq_false_iff_eq.mpr c6
            clear c6
            have c7b0 := eq_true (of_decide_eq_true (by first | (with_reducible assumption) | assumption) : 0 ≤ x4_1)
            by_cases c8 : x4_1 ≤ (a0.size : Int)
            · rw [if_pos c8] at H
              have c8b0 := eq_true c8
              have c8b1 : decide (x4_1 ≤ (a0.size : Int)) = true := decide_eq_true c8
              clear c8
              replace H := Option.bind_eq_some_iff.mp H
              obtain ⟨⟨t39102, t39103⟩, A90, H⟩ := H
              replace H : (if 0 ≤ (wrap64 (x4_1 + 1)) then (if (wrap64 (x4_1 + 1)) ≤ (a0.size : Int) then ((virgateref01_Value.f k1 (a0.extract ((wrap64 (x4_1 + 1)) : Int).toNat a0.size) 32).bind fun bt39104 => (if t39103 = true then (if bt39104.2 = true then ((virgateref02_May.f k1 t39102 bt39104.1).bind fun t39107 => (if t39107 = true then (some (t39102, bt39104.1, true)) else (some (0, 0, false)))) else (some (0, 0, false))) else (some (0, 0, false)))) else (none)) else (none)) = some (r1, r2, r3) := H
              have A9 := Aside0.mk A90
              clear A90
              obtain ⟨ji10, hji10⟩ : ∃ j_ : Int, (wrap64 (x4_1 + 1)) = j_ := ⟨_, rfl⟩
              replace H : (if 0 ≤ (ji10) then (if (ji10) ≤ (a0.size : Int) then ((virgateref01_Value.f k1 (a0.extract ((ji10) : Int).toNat a0.size) 32).bind fun bt39104 => (if t39103 = true then (if bt39104.2 = true then ((virgateref02_May.f k1 t39102 bt39104.1).bind fun t39107 => (if t39107 = true then (some (t39102, bt39104.1, true)) else (some (0, 0, false)))) else (some (0, 0, false))) else (some (0, 0, false)))) else (none)) else (none)) = some (r1, r2, r3) := by first | (rw [hji10] at H; exact H) | (simp only [hji10] at H ⊢; exact H)
              (try rw [hji10] at A9)
              have hji10w : (IntKind.i64.wrap (x4_1 + 1)) = ji10 := (i64_w _).trans hji10
              by_cases c11 : 0 ≤ (ji10)
              · rw [if_pos c11] at H
                have c11b0 := eq_true c11
                have c11b1 : decide (0 ≤ (ji10)) = true := decide_eq_true c11
                clear c11
                by_cases c12 : (ji10) ≤ (a0.size : Int)
                · rw [if_pos c12] at H
                  have c12b0 := eq_true c12
                  have c12b1 : decide ((ji10) ≤ (a0.size : Int)) = true := decide_eq_true c12
                  clear c12
                  replace H := Option.bind_eq_some_iff.mp H
                  obtain ⟨⟨t39104, t39105⟩, A130, H⟩ := H
                  replace H : (if t39103 = true then (if t39105 = true then ((virgateref02_May.f k1 t39102 t39104).bind fun t39107 => (if t39107 = true then (some (t39102, t39104, true)) else (some (0, 0, false)))) else (some (0, 0, false))) else (some (0, 0, false))) = some (r1, r2, r3) := H
                  have A13 := Aside0.mk A130
                  clear A130
                  by_cases c14 : t39103 = true
                  · subst c14
                    have H1 : (if t39105 = true then ((virgateref02_May.f k1 t39102 t39104).bind fun t39107 => (if t39107 = true then (some (t39102, t39104, true)) else (some (0, 0, false)))) else (some (0, 0, false))) = some (r1, r2, r3) := by rw [if_pos rfl] at H; exact H
                    clear H
                    have H := H1
                    clear H1
                    by_cases c15 : t39105 = true
                    · subst c15
                      have H1 : ((virgateref02_May.f k1 t39102 t39104).bind fun t39107 => (if t39107 = true then (some (t39102, t39104, true)) else (some (0, 0, false)))) = some (r1, r2, r3) := by rw [if_pos rfl] at H; exact H
                      clear H
                      have H := H1
                      clear H1
                      replace H := Option.bind_eq_some_iff.mp H
                      obtain ⟨t39107, A160, H⟩ := H
                      replace H : (if t39107 = true then (some (t39102, t39104, true)) else (some (0, 0, false))) = some (r1, r2, r3) := H
                      have A16 := Aside0.mk A160
                      clear A160
                      by_cases c17 : t39107 = true
                      · subst c17
                        have H1 : (some (t39102, t39104, true)) = some (r1, r2, r3) := by rw [if_pos rfl] at H; exact H
                        clear H
                        have H := H1
                        clear H1
                        simp only [Option.some.injEq, Prod.mk.injEq] at H
                        obtain ⟨rfl, rfl, rfl⟩ := H
                        have p5 : 0 ≤ (x4_1 : Int) := of_decide_eq_true (by first | (with_reducible assumption) | assumption)
                        have q5 : x4_1 < (a0.size : Int) := of_decide_eq_true (by first | (with_reducible assumption) | assumption)
                        have hx5 := bt_at a0 x4_1
                        replace p5 := eq_true p5
                        replace q5 := eq_true q5
                        go_wp2_with (first | ((with_reducible refine gate_callee (f := 22) rfl ?_); refine goesL_ (some 24) rfl rfl Tryd.func22 (by kernel_rfl) rfl #[.string (a0.extract 0 (x4_1 : Int).toNat)] rfl (by (try simp only [List.map_toArray, List.map_cons, List.map_nil]); first | done | rfl | (simp only [List.length_drop, List.length_take]; rfl)) ?_; (with_reducible refine (virgateref01_Parse.calls k1 (a0.extract 0 (x4_1 : Int).toNat) t39102 true _ A9.out).mono ?_); rintro e w18 ⟨rfl, hb⟩; refine ⟨_, rfl, ?_⟩; have n0_ := Aside0.mk (blk_below (g := gb39101) (o := .cells #[.int .u32 x39102000_1, .int .i64 x39102001_1] 44 (0, 0)) (by (with_reducible repeat (first | refine blk_drewN ?_ _ | refine blk_drew ?_ | refine blk_alloc ?_ _)); exact BK39101.out) hb); have n1_ := Aside0.mk (below_step (by repeat (first | (with_reducible first | exact HB.out | apply below_alloc | apply pw_below_drewN | apply below_drew1 | refine below_set ?_ GE39101.out) | exact HB.out)) hb); clear BK39101; clear HB; have BK39101 := n0_; have HB := n1_; clear n0_ n1_; (try clear hb); (try clear hb2); (try clear hk); (try clear hi)) | ((with_reducible refine gate_callee (f := 79) rfl ?_); refine goesL_ (some 32) rfl rfl Tryd.func79 (by kernel_rfl) rfl #[.string (a0.extract ((ji10) : Int).toNat a0.size), .int .i64 32] rfl (by (try simp only [List.map_toArray, List.map_cons, List.map_nil]); first | done | (simp only [hji10]; rfl) | rfl | (simp only [List.length_drop, List.length_take]; rfl)) ?_; (with_reducible refine (virgateref01_Value.calls k1 (a0.extract ((ji10) : Int).toNat a0.size) 32 t39104 true _ A13.out).mono ?_); rintro e w19 ⟨rfl, hb⟩; refine ⟨_, rfl, ?_⟩; have n0_ := Aside0.mk (blk_below (g := gb39101) (o := .cells #[.int .u32 x39102000_1, .int .i64 x39102001_1] 44 (0, 0)) (by (with_reducible repeat (first | refine blk_drewN ?_ _ | refine blk_drew ?_ | refine blk_alloc ?_ _)); exact BK39101.out) hb); have n1_ := Aside0.mk (below_step (by repeat (first | (with_reducible first | exact HB.out | apply below_alloc | apply pw_below_drewN | apply below_drew1 | refine below_set ?_ GE39101.out) | exact HB.out)) hb); clear BK39101; clear HB; have BK39101 := n0_; have HB := n1_; clear n0_ n1_; (try clear hb); (try clear hb2); (try clear hk); (try clear hi)) | ((with_reducible refine gate_dst (N := 9) rfl ?_); refine box_event ?hg (N := 9) ?hd (cs := #[.int .u32 0, .int .i64 0]) (t := 44) ?hr ?_; (case hd => rfl); (case hg => rfl); (case hr => first | (go_simp; done) | (go_simp; rfl)); intro gb39106 hg w20 hbox hb; have n0_ := Aside0.mk (blk_below (g := gb39101) (o := .cells #[.int .u32 x39102000_1, .int .i64 x39102001_1] 44 (0, 0)) (by (with_reducible repeat (first | refine blk_drewN ?_ _ | refine blk_drew ?_ | refine blk_alloc ?_ _)); exact BK39101.out) hb); have n1_ := Aside0.mk (below_step (by repeat (first | (with_reducible first | exact HB.out | apply below_alloc | apply pw_below_drewN | apply below_drew1 | refine below_set ?_ GE39101.out) | exact HB.out)) hb); have n2_ := Aside0.mk (hbox); have n3_ := Aside0.mk ((by rw [hg]; exact (below_size (by repeat (first | (with_reducible first | exact HB.out | apply below_alloc | apply pw_below_drewN | apply below_drew1 | refine below_set ?_ GE39101.out) | exact HB.out))) : w.heap.size ≤ gb39106)); have n4_ := Aside0.mk ((by rw [hg]; exact (below_size (by repeat (first | (with_reducible first | exact HB.out | apply below_alloc | apply pw_below_drewN | apply below_drew1 | refine below_set ?_ GE39101.out) | exact HB.out))) : w.heap.size ≤ gb39106)); have n5_ := Aside0.mk ((by rw [hg]; exact Nat.ne_of_lt (blk_lt (g := gb39101) (o := .cells #[.int .u32 x39102000_1, .int .i64 x39102001_1] 44 (0, 0)) (by (with_reducible repeat (first | refine blk_drewN ?_ _ | refine blk_drew ?_ | refine blk_alloc ?_ _)); exact BK39101.out)) : gb39101 ≠ gb39106)); have n6_ := Aside0.mk ((by rw [hg]; exact Nat.ne_of_gt (blk_lt (g := gb39101) (o := .cells #[.int .u32 x39102000_1, .int .i64 x39102001_1] 44 (0, 0)) (by (with_reducible repeat (first | refine blk_drewN ?_ _ | refine blk_drew ?_ | refine blk_alloc ?_ _)); exact BK39101.out)) : gb39106 ≠ gb39101)); clear BK39101; clear HB; have BK39101 := n0_; have HB := n1_; have BK39106 := n2_; have GW39106 := n3_; have GE39106 := n4_; have NB39101_39106 := n5_; have NB39106_39101 := n6_; clear n0_ n1_ n2_ n3_ n4_ n5_ n6_; clear hb hbox hg; have hnb21 := NB39106_39101.out; have hnc21 := NB39101_39106.out; have hcz22_0 : w20.cell? ⟨gb39106, 0, none⟩ = some (.int .u32 0) := (blk_cell BK39106.out 0).trans rfl; have hcz22_1 : w20.cell? ⟨gb39106, 1, none⟩ = some (.int .i64 0) := (blk_cell BK39106.out 1).trans rfl; have hfz22_0 := blk_frozen BK39106.out 0; have hfz22_1 := blk_frozen BK39106.out 1) | (go_at_call 35; (with_reducible refine (virgateref02_May.calls k1 t39102 t39104 true _ A16.out).mono ?_); rintro e w23 ⟨rfl, hb⟩; have n0_ := Aside0.mk (blk_below (g := gb39101) (o := .cells #[.int .u32 x39102000_1, .int .i64 x39102001_1] 44 (0, 0)) (by (with_reducible repeat (first | refine blk_drewN ?_ _ | refine blk_drew ?_ | refine blk_alloc ?_ _)); refine blk_far ?_ NB39101_39106.out _; (with_reducible repeat (first | refine blk_drewN ?_ _ | refine blk_drew ?_ | refine blk_alloc ?_ _)); refine blk_far ?_ NB39101_39106.out _; (with_reducible repeat (first | refine blk_drewN ?_ _ | refine blk_drew ?_ | refine blk_alloc ?_ _)); exact BK39101.out) hb); have n1_ := Aside0.mk (blk_below (g := gb39106) (o := .cells #[.int .u32 t39102, .int .i64 t39104] 44 (0, 0)) (by (with_reducible repeat (first | refine blk_drewN ?_ _ | refine blk_drew ?_ | refine blk_alloc ?_ _)); refine blk_put (cs := #[.int .u32 t39102, .int .i64 0]) ?_ 1 _ rfl; (with_reducible repeat (first | refine blk_drewN ?_ _ | refine blk_drew ?_ | refine blk_alloc ?_ _)); refine blk_put (cs := #[.int .u32 0, .int .i64 0]) ?_ 0 _ rfl; (with_reducible repeat (first | refine blk_drewN ?_ _ | refine blk_drew ?_ | refine blk_alloc ?_ _)); exact BK39106.out) hb); have n2_ := Aside0.mk (below_step (by repeat (first | (with_reducible first | exact HB.out | apply below_alloc | apply pw_below_drewN | apply below_drew1 | refine below_set ?_ GE39101.out | refine below_set ?_ GE39106.out) | exact HB.out)) hb); clear BK39101; clear BK39106; clear HB; have BK39101 := n0_; have BK39106 := n1_; have HB := n2_; clear n0_ n1_ n2_; (try clear hb); (try clear hb2); (try clear hk); (try clear hi); have hcz24_0 : w23.cell? ⟨gb39106, 0, none⟩ = some (.int .u32 t39102) := (blk_cell BK39106.out 0).trans rfl; have hcz24_1 : w23.cell? ⟨gb39106, 1, none⟩ = some (.int .i64 t39104) := (blk_cell BK39106.out 1).trans rfl; have hfz24_0 := blk_frozen BK39106.out 0; have hfz24_1 := blk_frozen BK39106.out 1; have hcz25_0 : w23.cell? ⟨gb39101, 0, none⟩ = some (.int .u32 x39102000_1) := (blk_cell BK39101.out 0).trans rfl; have hcz25_1 : w23.cell? ⟨gb39101, 1, none⟩ = some (.int .i64 x39102001_1) := (blk_cell BK39101.out 1).trans rfl; have hfz25_0 := blk_frozen BK39101.out 0; have hfz25_1 := blk_frozen BK39101.out 1))
                        refine bodyPost_ret (results_ct rfl _ _ gb39101 44 #[.int .u32 t39102, .int .i64 t39104] (0, 0) _ rfl (by (with_reducible repeat (first | refine blk_drewN ?_ _ | refine blk_drew ?_ | refine blk_alloc ?_ _)); refine blk_put (cs := #[.int .u32 t39102, .int .i64 x39102001_1]) ?_ 1 _ rfl; (with_reducible repeat (first | refine blk_drewN ?_ _ | refine blk_drew ?_ | refine blk_alloc ?_ _)); refine blk_put (cs := #[.int .u32 x39102000_1, .int .i64 x39102001_1]) ?_ 0 _ rfl; (with_reducible repeat (first | refine blk_drewN ?_ _ | refine blk_drew ?_ | refine blk_alloc ?_ _)); exact BK39101.out) Tryd.underlying44 rfl (by kernel_rfl)) rfl ?_
                        exact ⟨by first | rfl | (simp [errW_none, errW_some] <;> rfl) | (simp only [← hji10]; first | rfl | (simp [errW_none, errW_some] <;> rfl)) | (simp [*, errW_none, errW_some] <;> rfl), by repeat (first | (with_reducible first | exact HB.out | apply below_alloc | apply pw_below_drewN | apply below_drew1 | refine below_set ?_ GE39101.out | refine below_set ?_ GE39106.out) | exact HB.out)⟩
                      · replace c17 := Bool.eq_false_iff.mpr c17
                        subst c17
                        have H1 : (some (0, 0, false)) = some (r1, r2, r3) := by rw [if_neg (show ¬ (false = true) by decide)] at H; exact H
                        clear H
                        have H := H1
                        clear H1
                        simp only [Option.some.injEq, Prod.mk.injEq] at H
                        obtain ⟨rfl, rfl, rfl⟩ := H
                        have p5 : 0 ≤ (x4_1 : Int) := of_decide_eq_true (by first | (with_reducible assumption) | assumption)
                        have q5 : x4_1 < (a0.size : Int) := of_decide_eq_true (by first | (with_reducible assumption) | assumption)
                        have hx5 := bt_at a0 x4_1
                        replace p5 := eq_true p5
                        replace q5 := eq_true q5
                        go_wp2_with (first | ((with_reducible refine gate_callee (f := 22) rfl ?_); refine goesL_ (some 24) rfl rfl Tryd.func22 (by kernel_rfl) rfl #[.string (a0.extract 0 (x4_1 : Int).toNat)] rfl (by (try simp only [List.map_toArray, List.map_cons, List.map_nil]); first | done | rfl | (simp only [List.length_drop, List.length_take]; rfl)) ?_; (with_reducible refine (virgateref01_Parse.calls k1 (a0.extract 0 (x4_1 : Int).toNat) t39102 true _ A9.out).mono ?_); rintro e w26 ⟨rfl, hb⟩; refine ⟨_, rfl, ?_⟩; have n0_ := Aside0.mk (blk_below (g := gb39101) (o := .cells #[.int .u32 x39102000_1, .int .i64 x39102001_1] 44 (0, 0)) (by (with_reducible repeat (first | refine blk_drewN ?_ _ | refine blk_drew ?_ | refine blk_alloc ?_ _)); exact BK39101.out) hb); have n1_ := Aside0.mk (below_step (by repeat (first | (with_reducible first | exact HB.out | apply below_alloc | apply pw_below_drewN | apply below_drew1 | refine below_set ?_ GE39101.out) | exact HB.out)) hb); clear BK39101; clear HB; have BK39101 := n0_; have HB := n1_; clear n0_ n1_; (try clear hb); (try clear hb2); (try clear hk); (try clear hi)) | ((with_reducible refine gate_callee (f := 79) rfl ?_); refine goesL_ (some 32) rfl rfl Tryd.func79 (by kernel_rfl) rfl #[.string (a0.extract ((ji10) : Int).toNat a0.size), .int .i64 32] rfl (by (try simp only [List.map_toArray, List.map_cons, List.map_nil]); first | done | (simp only [hji10]; rfl) | rfl | (simp only [List.length_drop, List.length_take]; rfl)) ?_; (with_reducible refine (virgateref01_Value.calls k1 (a0.extract ((ji10) : Int).toNat a0.size) 32 t39104 true _ A13.out).mono ?_); rintro e w27 ⟨rfl, hb⟩; refine ⟨_, rfl, ?_⟩; have n0_ := Aside0.mk (blk_below (g := gb39101) (o := .cells #[.int .u32 x39102000_1, .int .i64 x39102001_1] 44 (0, 0)) (by (with_reducible repeat (first | refine blk_drewN ?_ _ | refine blk_drew ?_ | refine blk_alloc ?_ _)); exact BK39101.out) hb); have n1_ := Aside0.mk (below_step (by repeat (first | (with_reducible first | exact HB.out | apply below_alloc | apply pw_below_drewN | apply below_drew1 | refine below_set ?_ GE39101.out) | exact HB.out)) hb); clear BK39101; clear HB; have BK39101 := n0_; have HB := n1_; clear n0_ n1_; (try clear hb); (try clear hb2); (try clear hk); (try clear hi)) | ((with_reducible refine gate_dst (N := 9) rfl ?_); refine box_event ?hg (N := 9) ?hd (cs := #[.int .u32 0, .int .i64 0]) (t := 44) ?hr ?_; (case hd => rfl); (case hg => rfl); (case hr => first | (go_simp; done) | (go_simp; rfl)); intro gb39106 hg w28 hbox hb; have n0_ := Aside0.mk (blk_below (g := gb39101) (o := .cells #[.int .u32 x39102000_1, .int .i64 x39102001_1] 44 (0, 0)) (by (with_reducible repeat (first | refine blk_drewN ?_ _ | refine blk_drew ?_ | refine blk_alloc ?_ _)); exact BK39101.out) hb); have n1_ := Aside0.mk (below_step (by repeat (first | (with_reducible first | exact HB.out | apply below_alloc | apply pw_below_drewN | apply below_drew1 | refine below_set ?_ GE39101.out) | exact HB.out)) hb); have n2_ := Aside0.mk (hbox); have n3_ := Aside0.mk ((by rw [hg]; exact (below_size (by repeat (first | (with_reducible first | exact HB.out | apply below_alloc | apply pw_below_drewN | apply below_drew1 | refine below_set ?_ GE39101.out) | exact HB.out))) : w.heap.size ≤ gb39106)); have n4_ := Aside0.mk ((by rw [hg]; exact (below_size (by repeat (first | (with_reducible first | exact HB.out | apply below_alloc | apply pw_below_drewN | apply below_drew1 | refine below_set ?_ GE39101.out) | exact HB.out))) : w.heap.size ≤ gb39106)); have n5_ := Aside0.mk ((by rw [hg]; exact Nat.ne_of_lt (blk_lt (g := gb39101) (o := .cells #[.int .u32 x39102000_1, .int .i64 x39102001_1] 44 (0, 0)) (by (with_reducible repeat (first | refine blk_drewN ?_ _ | refine blk_drew ?_ | refine blk_alloc ?_ _)); exact BK39101.out)) : gb39101 ≠ gb39106)); have n6_ := Aside0.mk ((by rw [hg]; exact Nat.ne_of_gt (blk_lt (g := gb39101) (o := .cells #[.int .u32 x39102000_1, .int .i64 x39102001_1] 44 (0, 0)) (by (with_reducible repeat (first | refine blk_drewN ?_ _ | refine blk_drew ?_ | refine blk_alloc ?_ _)); exact BK39101.out)) : gb39106 ≠ gb39101)); clear BK39101; clear HB; have BK39101 := n0_; have HB := n1_; have BK39106 := n2_; have GW39106 := n3_; have GE39106 := n4_; have NB39101_39106 := n5_; have NB39106_39101 := n6_; clear n0_ n1_ n2_ n3_ n4_ n5_ n6_; clear hb hbox hg; have hnb29 := NB39106_39101.out; have hnc29 := NB39101_39106.out; have hcz30_0 : w28.cell? ⟨gb39106, 0, none⟩ = some (.int .u32 0) := (blk_cell BK39106.out 0).trans rfl; have hcz30_1 : w28.cell? ⟨gb39106, 1, none⟩ = some (.int .i64 0) := (blk_cell BK39106.out 1).trans rfl; have hfz30_0 := blk_frozen BK39106.out 0; have hfz30_1 := blk_frozen BK39106.out 1) | (go_at_call 35; (with_reducible refine (virgateref02_May.calls k1 t39102 t39104 false _ A16.out).mono ?_); rintro e w31 ⟨rfl, hb⟩; have n0_ := Aside0.mk (blk_below (g := gb39101) (o := .cells #[.int .u32 x39102000_1, .int .i64 x39102001_1] 44 (0, 0)) (by (with_reducible repeat (first | refine blk_drewN ?_ _ | refine blk_drew ?_ | refine blk_alloc ?_ _)); refine blk_far ?_ NB39101_39106.out _; (with_reducible repeat (first | refine blk_drewN ?_ _ | refine blk_drew ?_ | refine blk_alloc ?_ _)); refine blk_far ?_ NB39101_39106.out _; (with_reducible repeat (first | refine blk_drewN ?_ _ | refine blk_drew ?_ | refine blk_alloc ?_ _)); exact BK39101.out) hb); have n1_ := Aside0.mk (blk_below (g := gb39106) (o := .cells #[.int .u32 t39102, .int .i64 t39104] 44 (0, 0)) (by (with_reducible repeat (first | refine blk_drewN ?_ _ | refine blk_drew ?_ | refine blk_alloc ?_ _)); refine blk_put (cs := #[.int .u32 t39102, .int .i64 0]) ?_ 1 _ rfl; (with_reducible repeat (first | refine blk_drewN ?_ _ | refine blk_drew ?_ | refine blk_alloc ?_ _)); refine blk_put (cs := #[.int .u32 0, .int .i64 0]) ?_ 0 _ rfl; (with_reducible repeat (first | refine blk_drewN ?_ _ | refine blk_drew ?_ | refine blk_alloc ?_ _)); exact BK39106.out) hb); have n2_ := Aside0.mk (below_step (by repeat (first | (with_reducible first | exact HB.out | apply below_alloc | apply pw_below_drewN | apply below_drew1 | refine below_set ?_ GE39101.out | refine below_set ?_ GE39106.out) | exact HB.out)) hb); clear BK39101; clear BK39106; clear HB; have BK39101 := n0_; have BK39106 := n1_; have HB := n2_; clear n0_ n1_ n2_; (try clear hb); (try clear hb2); (try clear hk); (try clear hi); have hcz32_0 : w31.cell? ⟨gb39101, 0, none⟩ = some (.int .u32 x39102000_1) := (blk_cell BK39101.out 0).trans rfl; have hcz32_1 : w31.cell? ⟨gb39101, 1, none⟩ = some (.int .i64 x39102001_1) := (blk_cell BK39101.out 1).trans rfl; have hfz32_0 := blk_frozen BK39101.out 0; have hfz32_1 := blk_frozen BK39101.out 1))
                        refine bodyPost_ret (results_ct rfl _ _ gb39101 44 #[.int .u32 0, .int .i64 0] (0, 0) _ rfl (by (with_reducible repeat (first | refine blk_drewN ?_ _ | refine blk_drew ?_ | refine blk_alloc ?_ _)); refine blk_put (cs := #[.int .u32 0, .int .i64 x39102001_1]) ?_ 1 _ rfl; (with_reducible repeat (first | refine blk_drewN ?_ _ | refine blk_drew ?_ | refine blk_alloc ?_ _)); refine blk_put (cs := #[.int .u32 x39102000_1, .int .i64 x39102001_1]) ?_ 0 _ rfl; (with_reducible repeat (first | refine blk_drewN ?_ _ | refine blk_drew ?_ | refine blk_alloc ?_ _)); exact BK39101.out) Tryd.underlying44 rfl (by kernel_rfl)) rfl ?_
                        exact ⟨by first | rfl | (simp [errW_none, errW_some] <;> rfl) | (simp only [← hji10]; first | rfl | (simp [errW_none, errW_some] <;> rfl)) | (simp [*, errW_none, errW_some] <;> rfl), by repeat (first | (with_reducible first | exact HB.out | apply below_alloc | apply pw_below_drewN | apply below_drew1 | refine below_set ?_ GE39101.out | refine below_set ?_ GE39106.out) | exact HB.out)⟩
                    · replace c15 := Bool.eq_false_iff.mpr c15
                      subst c15
                      have H1 : (some (0, 0, false)) = some (r1, r2, r3) := by rw [if_neg (show ¬ (false = true) by decide)] at H; exact H
                      clear H
                      have H := H1
                      clear H1
                      simp only [Option.some.injEq, Prod.mk.injEq] at H
                      obtain ⟨rfl, rfl, rfl⟩ := H
                      have p5 : 0 ≤ (x4_1 : Int) := of_decide_eq_true (by first | (with_reducible assumption) | assumption)
                      have q5 : x4_1 < (a0.size : Int) := of_decide_eq_true (by first | (with_reducible assumption) | assumption)
                      have hx5 := bt_at a0 x4_1
                      replace p5 := eq_true p5
                      replace q5 := eq_true q5
                      go_wp2_with (first | ((with_reducible refine gate_callee (f := 22) rfl ?_); refine goesL_ (some 24) rfl rfl Tryd.func22 (by kernel_rfl) rfl #[.string (a0.extract 0 (x4_1 : Int).toNat)] rfl (by (try simp only [List.map_toArray, List.map_cons, List.map_nil]); first | done | rfl | (simp only [List.length_drop, List.length_take]; rfl)) ?_; (with_reducible refine (virgateref01_Parse.calls k1 (a0.extract 0 (x4_1 : Int).toNat) t39102 true _ A9.out).mono ?_); rintro e w33 ⟨rfl, hb⟩; refine ⟨_, rfl, ?_⟩; have n0_ := Aside0.mk (blk_below (g := gb39101) (o := .cells #[.int .u32 x39102000_1, .int .i64 x39102001_1] 44 (0, 0)) (by (with_reducible repeat (first | refine blk_drewN ?_ _ | refine blk_drew ?_ | refine blk_alloc ?_ _)); exact BK39101.out) hb); have n1_ := Aside0.mk (below_step (by repeat (first | (with_reducible first | exact HB.out | apply below_alloc | apply pw_below_drewN | apply below_drew1 | refine below_set ?_ GE39101.out) | exact HB.out)) hb); clear BK39101; clear HB; have BK39101 := n0_; have HB := n1_; clear n0_ n1_; (try clear hb); (try clear hb2); (try clear hk); (try clear hi)) | ((with_reducible refine gate_callee (f := 79) rfl ?_); refine goesL_ (some 32) rfl rfl Tryd.func79 (by kernel_rfl) rfl #[.string (a0.extract ((ji10) : Int).toNat a0.size), .int .i64 32] rfl (by (try simp only [List.map_toArray, List.map_cons, List.map_nil]); first | done | (simp only [hji10]; rfl) | rfl | (simp only [List.length_drop, List.length_take]; rfl)) ?_; (with_reducible refine (virgateref01_Value.calls k1 (a0.extract ((ji10) : Int).toNat a0.size) 32 t39104 false _ A13.out).mono ?_); rintro e w34 ⟨rfl, hb⟩; refine ⟨_, rfl, ?_⟩; have n0_ := Aside0.mk (blk_below (g := gb39101) (o := .cells #[.int .u32 x39102000_1, .int .i64 x39102001_1] 44 (0, 0)) (by (with_reducible repeat (first | refine blk_drewN ?_ _ | refine blk_drew ?_ | refine blk_alloc ?_ _)); exact BK39101.out) hb); have n1_ := Aside0.mk (below_step (by repeat (first | (with_reducible first | exact HB.out | apply below_alloc | apply pw_below_drewN | apply below_drew1 | refine below_set ?_ GE39101.out) | exact HB.out)) hb); clear BK39101; clear HB; have BK39101 := n0_; have HB := n1_; clear n0_ n1_; (try clear hb); (try clear hb2); (try clear hk); (try clear hi)) | ((with_reducible refine gate_dst (N := 9) rfl ?_); refine box_event ?hg (N := 9) ?hd (cs := #[.int .u32 0, .int .i64 0]) (t := 44) ?hr ?_; (case hd => rfl); (case hg => rfl); (case hr => first | (go_simp; done) | (go_simp; rfl)); intro gb39106 hg w35 hbox hb; have n0_ := Aside0.mk (blk_below (g := gb39101) (o := .cells #[.int .u32 x39102000_1, .int .i64 x39102001_1] 44 (0, 0)) (by (with_reducible repeat (first | refine blk_drewN ?_ _ | refine blk_drew ?_ | refine blk_alloc ?_ _)); exact BK39101.out) hb); have n1_ := Aside0.mk (below_step (by repeat (first | (with_reducible first | exact HB.out | apply below_alloc | apply pw_below_drewN | apply below_drew1 | refine below_set ?_ GE39101.out) | exact HB.out)) hb); have n2_ := Aside0.mk (hbox); have n3_ := Aside0.mk ((by rw [hg]; exact (below_size (by repeat (first | (with_reducible first | exact HB.out | apply below_alloc | apply pw_below_drewN | apply below_drew1 | refine below_set ?_ GE39101.out) | exact HB.out))) : w.heap.size ≤ gb39106)); have n4_ := Aside0.mk ((by rw [hg]; exact (below_size (by repeat (first | (with_reducible first | exact HB.out | apply below_alloc | apply pw_below_drewN | apply below_drew1 | refine below_set ?_ GE39101.out) | exact HB.out))) : w.heap.size ≤ gb39106)); have n5_ := Aside0.mk ((by rw [hg]; exact Nat.ne_of_lt (blk_lt (g := gb39101) (o := .cells #[.int .u32 x39102000_1, .int .i64 x39102001_1] 44 (0, 0)) (by (with_reducible repeat (first | refine blk_drewN ?_ _ | refine blk_drew ?_ | refine blk_alloc ?_ _)); exact BK39101.out)) : gb39101 ≠ gb39106)); have n6_ := Aside0.mk ((by rw [hg]; exact Nat.ne_of_gt (blk_lt (g := gb39101) (o := .cells #[.int .u32 x39102000_1, .int .i64 x39102001_1] 44 (0, 0)) (by (with_reducible repeat (first | refine blk_drewN ?_ _ | refine blk_drew ?_ | refine blk_alloc ?_ _)); exact BK39101.out)) : gb39106 ≠ gb39101)); clear BK39101; clear HB; have BK39101 := n0_; have HB := n1_; have BK39106 := n2_; have GW39106 := n3_; have GE39106 := n4_; have NB39101_39106 := n5_; have NB39106_39101 := n6_; clear n0_ n1_ n2_ n3_ n4_ n5_ n6_; clear hb hbox hg; have hnb36 := NB39106_39101.out; have hnc36 := NB39101_39106.out; have hcz37_0 : w35.cell? ⟨gb39106, 0, none⟩ = some (.int .u32 0) := (blk_cell BK39106.out 0).trans rfl; have hcz37_1 : w35.cell? ⟨gb39106, 1, none⟩ = some (.int .i64 0) := (blk_cell BK39106.out 1).trans rfl; have hfz37_0 := blk_frozen BK39106.out 0; have hfz37_1 := blk_frozen BK39106.out 1; have hcz38_0 : w35.cell? ⟨gb39101, 0, none⟩ = some (.int .u32 x39102000_1) := (blk_cell BK39101.out 0).trans rfl; have hcz38_1 : w35.cell? ⟨gb39101, 1, none⟩ = some (.int .i64 x39102001_1) := (blk_cell BK39101.out 1).trans rfl; have hfz38_0 := blk_frozen BK39101.out 0; have hfz38_1 := blk_frozen BK39101.out 1))
                      refine bodyPost_ret (results_ct rfl _ _ gb39101 44 #[.int .u32 0, .int .i64 0] (0, 0) _ rfl (by (with_reducible repeat (first | refine blk_drewN ?_ _ | refine blk_drew ?_ | refine blk_alloc ?_ _)); refine blk_put (cs := #[.int .u32 0, .int .i64 x39102001_1]) ?_ 1 _ rfl; (with_reducible repeat (first | refine blk_drewN ?_ _ | refine blk_drew ?_ | refine blk_alloc ?_ _)); refine blk_put (cs := #[.int .u32 x39102000_1, .int .i64 x39102001_1]) ?_ 0 _ rfl; (with_reducible repeat (first | refine blk_drewN ?_ _ | refine blk_drew ?_ | refine blk_alloc ?_ _)); refine blk_far ?_ NB39101_39106.out _; (with_reducible repeat (first | refine blk_drewN ?_ _ | refine blk_drew ?_ | refine blk_alloc ?_ _)); refine blk_far ?_ NB39101_39106.out _; (with_reducible repeat (first | refine blk_drewN ?_ _ | refine blk_drew ?_ | refine blk_alloc ?_ _)); exact BK39101.out) Tryd.underlying44 rfl (by kernel_rfl)) rfl ?_
                      exact ⟨by first | rfl | (simp [errW_none, errW_some] <;> rfl) | (simp only [← hji10]; first | rfl | (simp [errW_none, errW_some] <;> rfl)) | (simp [*, errW_none, errW_some] <;> rfl), by repeat (first | (with_reducible first | exact HB.out | apply below_alloc | apply pw_below_drewN | apply below_drew1 | refine below_set ?_ GE39101.out | refine below_set ?_ GE39106.out) | exact HB.out)⟩
                  · replace c14 := Bool.eq_false_iff.mpr c14
                    subst c14
                    have H1 : (some (0, 0, false)) = some (r1, r2, r3) := by rw [if_neg (show ¬ (false = true) by decide)] at H; exact H
                    clear H
                    have H := H1
                    clear H1
                    simp only [Option.some.injEq, Prod.mk.injEq] at H
                    obtain ⟨rfl, rfl, rfl⟩ := H
                    have p5 : 0 ≤ (x4_1 : Int) := of_decide_eq_true (by first | (with_reducible assumption) | assumption)
                    have q5 : x4_1 < (a0.size : Int) := of_decide_eq_true (by first | (with_reducible assumption) | assumption)
                    have hx5 := bt_at a0 x4_1
                    replace p5 := eq_true p5
                    replace q5 := eq_true q5
                    go_wp2_with (first | ((with_reducible refine gate_callee (f := 22) rfl ?_); refine goesL_ (some 24) rfl rfl Tryd.func22 (by kernel_rfl) rfl #[.string (a0.extract 0 (x4_1 : Int).toNat)] rfl (by (try simp only [List.map_toArray, List.map_cons, List.map_nil]); first | done | rfl | (simp only [List.length_drop, List.length_take]; rfl)) ?_; (with_reducible refine (virgateref01_Parse.calls k1 (a0.extract 0 (x4_1 : Int).toNat) t39102 false _ A9.out).mono ?_); rintro e w39 ⟨rfl, hb⟩; refine ⟨_, rfl, ?_⟩; have n0_ := Aside0.mk (blk_below (g := gb39101) (o := .cells #[.int .u32 x39102000_1, .int .i64 x39102001_1] 44 (0, 0)) (by (with_reducible repeat (first | refine blk_drewN ?_ _ | refine blk_drew ?_ | refine blk_alloc ?_ _)); exact BK39101.out) hb); have n1_ := Aside0.mk (below_step (by repeat (first | (with_reducible first | exact HB.out | apply below_alloc | apply pw_below_drewN | apply below_drew1 | refine below_set ?_ GE39101.out) | exact HB.out)) hb); clear BK39101; clear HB; have BK39101 := n0_; have HB := n1_; clear n0_ n1_; (try clear hb); (try clear hb2); (try clear hk); (try clear hi)) | ((with_reducible refine gate_callee (f := 79) rfl ?_); refine goesL_ (some 32) rfl rfl Tryd.func79 (by kernel_rfl) rfl #[.string (a0.extract ((ji10) : Int).toNat a0.size), .int .i64 32] rfl (by (try simp only [List.map_toArray, List.map_cons, List.map_nil]); first | done | (simp only [hji10]; rfl) | rfl | (simp only [List.length_drop, List.length_take]; rfl)) ?_; (with_reducible refine (virgateref01_Value.calls k1 (a0.extract ((ji10) : Int).toNat a0.size) 32 t39104 t39105 _ A13.out).mono ?_); rintro e w40 ⟨rfl, hb⟩; refine ⟨_, rfl, ?_⟩; have n0_ := Aside0.mk (blk_below (g := gb39101) (o := .cells #[.int .u32 x39102000_1, .int .i64 x39102001_1] 44 (0, 0)) (by (with_reducible repeat (first | refine blk_drewN ?_ _ | refine blk_drew ?_ | refine blk_alloc ?_ _)); exact BK39101.out) hb); have n1_ := Aside0.mk (below_step (by repeat (first | (with_reducible first | exact HB.out | apply below_alloc | apply pw_below_drewN | apply below_drew1 | refine below_set ?_ GE39101.out) | exact HB.out)) hb); clear BK39101; clear HB; have BK39101 := n0_; have HB := n1_; clear n0_ n1_; (try clear hb); (try clear hb2); (try clear hk); (try clear hi)) | ((with_reducible refine gate_dst (N := 9) rfl ?_); refine box_event ?hg (N := 9) ?hd (cs := #[.int .u32 0, .int .i64 0]) (t := 44) ?hr ?_; (case hd => rfl); (case hg => rfl); (case hr => first | (go_simp; done) | (go_simp; rfl)); intro gb39106 hg w41 hbox hb; have n0_ := Aside0.mk (blk_below (g := gb39101) (o := .cells #[.int .u32 x39102000_1, .int .i64 x39102001_1] 44 (0, 0)) (by (with_reducible repeat (first | refine blk_drewN ?_ _ | refine blk_drew ?_ | refine blk_alloc ?_ _)); exact BK39101.out) hb); have n1_ := Aside0.mk (below_step (by repeat (first | (with_reducible first | exact HB.out | apply below_alloc | apply pw_below_drewN | apply below_drew1 | refine below_set ?_ GE39101.out) | exact HB.out)) hb); have n2_ := Aside0.mk (hbox); have n3_ := Aside0.mk ((by rw [hg]; exact (below_size (by repeat (first | (with_reducible first | exact HB.out | apply below_alloc | apply pw_below_drewN | apply below_drew1 | refine below_set ?_ GE39101.out) | exact HB.out))) : w.heap.size ≤ gb39106)); have n4_ := Aside0.mk ((by rw [hg]; exact (below_size (by repeat (first | (with_reducible first | exact HB.out | apply below_alloc | apply pw_below_drewN | apply below_drew1 | refine below_set ?_ GE39101.out) | exact HB.out))) : w.heap.size ≤ gb39106)); have n5_ := Aside0.mk ((by rw [hg]; exact Nat.ne_of_lt (blk_lt (g := gb39101) (o := .cells #[.int .u32 x39102000_1, .int .i64 x39102001_1] 44 (0, 0)) (by (with_reducible repeat (first | refine blk_drewN ?_ _ | refine blk_drew ?_ | refine blk_alloc ?_ _)); exact BK39101.out)) : gb39101 ≠ gb39106)); have n6_ := Aside0.mk ((by rw [hg]; exact Nat.ne_of_gt (blk_lt (g := gb39101) (o := .cells #[.int .u32 x39102000_1, .int .i64 x39102001_1] 44 (0, 0)) (by (with_reducible repeat (first | refine blk_drewN ?_ _ | refine blk_drew ?_ | refine blk_alloc ?_ _)); exact BK39101.out)) : gb39106 ≠ gb39101)); clear BK39101; clear HB; have BK39101 := n0_; have HB := n1_; have BK39106 := n2_; have GW39106 := n3_; have GE39106 := n4_; have NB39101_39106 := n5_; have NB39106_39101 := n6_; clear n0_ n1_ n2_ n3_ n4_ n5_ n6_; clear hb hbox hg; have hnb42 := NB39106_39101.out; have hnc42 := NB39101_39106.out; have hcz43_0 : w41.cell? ⟨gb39106, 0, none⟩ = some (.int .u32 0) := (blk_cell BK39106.out 0).trans rfl; have hcz43_1 : w41.cell? ⟨gb39106, 1, none⟩ = some (.int .i64 0) := (blk_cell BK39106.out 1).trans rfl; have hfz43_0 := blk_frozen BK39106.out 0; have hfz43_1 := blk_frozen BK39106.out 1; have hcz44_0 : w41.cell? ⟨gb39101, 0, none⟩ = some (.int .u32 x39102000_1) := (blk_cell BK39101.out 0).trans rfl; have hcz44_1 : w41.cell? ⟨gb39101, 1, none⟩ = some (.int .i64 x39102001_1) := (blk_cell BK39101.out 1).trans rfl; have hfz44_0 := blk_frozen BK39101.out 0; have hfz44_1 := blk_frozen BK39101.out 1))
                    refine bodyPost_ret (results_ct rfl _ _ gb39101 44 #[.int .u32 0, .int .i64 0] (0, 0) _ rfl (by (with_reducible repeat (first | refine blk_drewN ?_ _ | refine blk_drew ?_ | refine blk_alloc ?_ _)); refine blk_put (cs := #[.int .u32 0, .int .i64 x39102001_1]) ?_ 1 _ rfl; (with_reducible repeat (first | refine blk_drewN ?_ _ | refine blk_drew ?_ | refine blk_alloc ?_ _)); refine blk_put (cs := #[.int .u32 x39102000_1, .int .i64 x39102001_1]) ?_ 0 _ rfl; (with_reducible repeat (first | refine blk_drewN ?_ _ | refine blk_drew ?_ | refine blk_alloc ?_ _)); refine blk_far ?_ NB39101_39106.out _; (with_reducible repeat (first | refine blk_drewN ?_ _ | refine blk_drew ?_ | refine blk_alloc ?_ _)); refine blk_far ?_ NB39101_39106.out _; (with_reducible repeat (first | refine blk_drewN ?_ _ | refine blk_drew ?_ | refine blk_alloc ?_ _)); exact BK39101.out) Tryd.underlying44 rfl (by kernel_rfl)) rfl ?_
                    exact ⟨by first | rfl | (simp [errW_none, errW_some] <;> rfl) | (simp only [← hji10]; first | rfl | (simp [errW_none, errW_some] <;> rfl)) | (simp [*, errW_none, errW_some] <;> rfl), by repeat (first | (with_reducible first | exact HB.out | apply below_alloc | apply pw_below_drewN | apply below_drew1 | refine below_set ?_ GE39101.out | refine below_set ?_ GE39106.out) | exact HB.out)⟩
                · rw [if_neg c12] at H
                  exact absurd H (by simp)
              · rw [if_neg c11] at H
                exact absurd H (by simp)
            · rw [if_neg c8] at H
              exact absurd H (by simp)
          · rw [if_neg c6] at H
            have c6b0 : ((bt a0 x4_1) == 47) = false := beq_eq_false_iff_ne.mpr c6
            have c6b1 : ((bt a0 x4_1) != 47) = true := bne_iff_ne.mpr c6
            have H' := Aside0.mk H
            clear H
            have p5 : 0 ≤ (x4_1 : Int) := of_decide_eq_true (by first | (with_reducible assumption) | assumption)
            have q5 : x4_1 < (a0.size : Int) := of_decide_eq_true (by first | (with_reducible assumption) | assumption)
            have hx5 := bt_at a0 x4_1
            replace p5 := eq_true p5
            replace q5 := eq_true q5
            go_wp2
            go_roundg k1
            case measure => have := HK1.out; omega
            case rel => exact ⟨(wrap64 (x4_1 + 1)), (x39102000_1), (x39102001_1), (by first | rfl | (simp; done) | (simp [*]; done)), H', ⟨by have := HK1.out; omega⟩, ⟨by (with_reducible repeat (first | refine blk_drewN ?_ _ | refine blk_drew ?_ | refine blk_alloc ?_ _)); exact BK39101.out⟩, ⟨by repeat (first | (with_reducible first | exact HB.out | apply below_alloc | apply pw_below_drewN | apply below_drew1 | refine below_set ?_ GE39101.out) | exact HB.out)⟩⟩
        · rw [if_neg c4] at H
          exact absurd H (by simp)
      · rw [if_neg c3] at H
        have c3b0 : decide (x4_1 < (a0.size : Int)) = false := decide_eq_false c3
        clear c3
        simp only [Option.some.injEq, Prod.mk.injEq] at H
        obtain ⟨rfl, rfl, rfl⟩ := H
        have hcz45_0 : wr.cell? ⟨gb39101, 0, none⟩ = some (.int .u32 x39102000_1) := (blk_cell BK39101.out 0).trans rfl
        have hcz45_1 : wr.cell? ⟨gb39101, 1, none⟩ = some (.int .i64 x39102001_1) := (blk_cell BK39101.out 1).trans rfl
        have hfz45_0 := blk_frozen BK39101.out 0
        have hfz45_1 := blk_frozen BK39101.out 1
        go_wp2
        refine bodyPost_ret (results_ct rfl _ _ gb39101 44 #[.int .u32 0, .int .i64 0] (0, 0) _ rfl (by (with_reducible repeat (first | refine blk_drewN ?_ _ | refine blk_drew ?_ | refine blk_alloc ?_ _)); refine blk_put (cs := #[.int .u32 0, .int .i64 x39102001_1]) ?_ 1 _ rfl; (with_reducible repeat (first | refine blk_drewN ?_ _ | refine blk_drew ?_ | refine blk_alloc ?_ _)); refine blk_put (cs := #[.int .u32 x39102000_1, .int .i64 x39102001_1]) ?_ 0 _ rfl; (with_reducible repeat (first | refine blk_drewN ?_ _ | refine blk_drew ?_ | refine blk_alloc ?_ _)); exact BK39101.out) Tryd.underlying44 rfl (by kernel_rfl)) rfl ?_
        exact ⟨by first | rfl | (simp [errW_none, errW_some] <;> rfl) | (simp [*, errW_none, errW_some] <;> rfl), by repeat (first | (with_reducible first | exact HB.out | apply below_alloc | apply pw_below_drewN | apply below_drew1 | refine below_set ?_ GE39101.out) | exact HB.out)⟩

end Go.Proofs.YtcdopgkkieenjaaDoor.V
end

-- VFVirgateref01NumX81
section
-- PRINTED by print.py (a twelfth state) out of the translation. Not trusted: Lean checks it.
namespace Go.Proofs.YtcdopgkkieenjaaDoor.V
open Go.RowKit Go.Proofs.YtcdopgkkieenjaaDoorW.PrintWords Go.Proofs.YtcdopgkkieenjaaDoorW.PrintLast Go.Proofs.YtcdopgkkieenjaaDoorW.PrintMore
attribute [local go_sem] max2_int min2_int max_two min_two max_three min_three max_four min_four   -- for this text's walks alone
set_option linter.unusedVariables false
set_option linter.unusedSimpArgs false

/-! ### virgateref01_Num: function 81 -/
def virgateref01_Num.f (k : Nat) (a0 : Int) : Option (ByteArray) := (virgateref01_num.f k a0).bind fun t81101 => (some t81101)
theorem virgateref01_Num.mono : ∀ a0 k, LeO (virgateref01_Num.f k a0) (virgateref01_Num.f (k + 1) a0) := by
  intro a0 k
  unfold virgateref01_Num.f
  repeat' first
      | (with_reducible exact virgateref01_num.mono _ _)
      | (with_reducible exact LeO.refl _)
      | (with_reducible exact LeO.none _)
      | (with_reducible refine LeO.ite ?_ ?_)
      | (with_reducible refine LeO.bind ?_ (fun _ => ?_))
      | exact virgateref01_num.mono _ _
      | exact LeO.none _
      | refine LeO.ite ?_ ?_
      | refine LeO.bind ?_ (fun _ => ?_)
set_option maxHeartbeats 8000000 in
set_option maxRecDepth 100000 in
theorem virgateref01_Num.calls (k : Nat) (a0 : Int) (r : ByteArray) (w : World) (h : virgateref01_Num.f k a0 = some r) :
    Calls Tryd.prog 81 #[.int .i64 a0] w fun e w' => e = .returned (.string r) ∧ Below w.heap.size w w' := by
  have HB := Aside0.mk (Below.refl w.heap.size w)
  have H : ((virgateref01_num.f k a0).bind fun t81101 => (some t81101)) = some r := h
  clear h
  replace H := Option.bind_eq_some_iff.mp H
  obtain ⟨t81101, A20, H⟩ := H
  replace H : (some t81101) = some r := H
  have A2 := Aside0.mk A20
  clear A20
  obtain rfl := Option.some.inj H
  go_enter Tryd.func81, Tryd.ntmps81
  go_wp2_with (first | ((with_reducible refine gate_callee (f := 78) rfl ?_); refine goesL_ (some 4) rfl rfl Tryd.func78 (by kernel_rfl) rfl #[.int .i64 a0] rfl (by (try simp only [List.map_toArray, List.map_cons, List.map_nil]); first | done | rfl | (simp only [List.length_drop, List.length_take]; rfl)) ?_; (with_reducible refine (virgateref01_num.calls k a0 t81101 _ A2.out).mono ?_); rintro e w3 ⟨rfl, hb⟩; refine ⟨_, rfl, ?_⟩; have n0_ := Aside0.mk (below_step (by repeat (first | (with_reducible first | exact HB.out | apply below_alloc | apply pw_below_drewN | apply below_drew1) | exact HB.out)) hb); clear HB; have HB := n0_; clear n0_; (try clear hb); (try clear hb2); (try clear hk); (try clear hi)))
  go_ret
  exact ⟨by first | rfl | (simp [errW_none, errW_some] <;> rfl) | (simp [*, errW_none, errW_some] <;> rfl), by repeat (first | (with_reducible first | exact HB.out | apply below_alloc | apply pw_below_drewN | apply below_drew1) | exact HB.out)⟩

end Go.Proofs.YtcdopgkkieenjaaDoor.V
end

-- VFVirgateref02Print
section
-- PRINTED by print.py (a twelfth state) out of the translation. Not trusted: Lean checks it.
namespace Go.Proofs.YtcdopgkkieenjaaDoor.V
open Go.RowKit Go.Proofs.YtcdopgkkieenjaaDoorW.PrintWords Go.Proofs.YtcdopgkkieenjaaDoorW.PrintLast Go.Proofs.YtcdopgkkieenjaaDoorW.PrintMore
attribute [local go_sem] max2_int min2_int max_two min_two max_three min_three max_four min_four   -- for this text's walks alone
set_option linter.unusedVariables false
set_option linter.unusedSimpArgs false

/-! ### virgateref02_Print: function 36 -/
def virgateref02_Print.f (k : Nat) (a0_0 : Int) (a0_1 : Int) : Option (ByteArray) := (virgateref02_May.f k a0_0 a0_1).bind fun t36102 => (if t36102 = true then ((virgateref01_Print.f k a0_0).bind fun t36103 => (if t36103.size + 1 ≤ 9223372036854775807 then ((virgateref01_Num.f k a0_1).bind fun t36104 => (if (t36103 ++ (⟨#[47]⟩ : ByteArray)).size + t36104.size ≤ 9223372036854775807 then (some ((t36103 ++ (⟨#[47]⟩ : ByteArray)) ++ t36104)) else (none))) else (none))) else (some (⟨#[]⟩ : ByteArray)))
theorem virgateref02_Print.mono : ∀ a0 a1 k, LeO (virgateref02_Print.f k a0 a1) (virgateref02_Print.f (k + 1) a0 a1) := by
  intro a0 a1 k
  unfold virgateref02_Print.f
  repeat' first
      | (with_reducible exact virgateref01_Num.mono _ _)
      | (with_reducible exact virgateref01_Print.mono _ _)
      | (with_reducible exact virgateref02_May.mono _ _ _)
      | (with_reducible exact LeO.refl _)
      | (with_reducible exact LeO.none _)
      | (with_reducible refine LeO.ite ?_ ?_)
      | (with_reducible refine LeO.bind ?_ (fun _ => ?_))
      | exact virgateref01_Num.mono _ _
      | exact virgateref01_Print.mono _ _
      | exact virgateref02_May.mono _ _ _
      | exact LeO.none _
      | refine LeO.ite ?_ ?_
      | refine LeO.bind ?_ (fun _ => ?_)
def virgateref02_Print.T3 : Bool × List (List Nat × List Nat) := (true, [([], []), ([0], [0]), ([1], [1]), ([2], [2]), ([], []), ([4], [4]), ([5, 2], [5]), ([3, 6], [3, 6]), ([7, 6, 0, 1, 2, 3, 4, 5, 6, 7], [7])])
def virgateref02_Print.B3 : List Nat := [0, 1, 3, 7, 0, 16, 55, 127, 255]
theorem virgateref02_Print.tab3 : rtab .any (opsOf Tryd.f36 3) = virgateref02_Print.T3 := by kernel_rfl
theorem virgateref02_Print.bits3 : waitsOk virgateref02_Print.T3.2 virgateref02_Print.B3 = true := by kernel_rfl
set_option maxHeartbeats 8000000 in
set_option maxRecDepth 100000 in
theorem virgateref02_Print.calls (k : Nat) (a0_0 : Int) (a0_1 : Int) (r : ByteArray) (w : World) (h : virgateref02_Print.f k a0_0 a0_1 = some r) :
    Calls Tryd.prog 36 #[.agg #[.int .u32 a0_0, .int .i64 a0_1]] w fun e w' => e = .returned (.string r) ∧ Below w.heap.size w w' := by
  have hu44 := Tryd.underlying44
  have HB := Aside0.mk (Below.refl w.heap.size w)
  have H : ((virgateref02_May.f k a0_0 a0_1).bind fun t36102 => (if t36102 = true then ((virgateref01_Print.f k a0_0).bind fun t36103 => (if t36103.size + 1 ≤ 9223372036854775807 then ((virgateref01_Num.f k a0_1).bind fun t36104 => (if (t36103 ++ (⟨#[47]⟩ : ByteArray)).size + t36104.size ≤ 9223372036854775807 then (some ((t36103 ++ (⟨#[47]⟩ : ByteArray)) ++ t36104)) else (none))) else (none))) else (some (⟨#[]⟩ : ByteArray)))) = some r := h
  clear h
  replace H := Option.bind_eq_some_iff.mp H
  obtain ⟨t36102, A20, H⟩ := H
  replace H : (if t36102 = true then ((virgateref01_Print.f k a0_0).bind fun t36103 => (if t36103.size + 1 ≤ 9223372036854775807 then ((virgateref01_Num.f k a0_1).bind fun t36104 => (if (t36103 ++ (⟨#[47]⟩ : ByteArray)).size + t36104.size ≤ 9223372036854775807 then (some ((t36103 ++ (⟨#[47]⟩ : ByteArray)) ++ t36104)) else (none))) else (none))) else (some (⟨#[]⟩ : ByteArray))) = some r := H
  have A2 := Aside0.mk A20
  clear A20
  by_cases c3 : t36102 = true
  · subst c3
    have H1 : ((virgateref01_Print.f k a0_0).bind fun t36103 => (if t36103.size + 1 ≤ 9223372036854775807 then ((virgateref01_Num.f k a0_1).bind fun t36104 => (if (t36103 ++ (⟨#[47]⟩ : ByteArray)).size + t36104.size ≤ 9223372036854775807 then (some ((t36103 ++ (⟨#[47]⟩ : ByteArray)) ++ t36104)) else (none))) else (none))) = some r := by rw [if_pos rfl] at H; exact H
    clear H
    have H := H1
    clear H1
    replace H := Option.bind_eq_some_iff.mp H
    obtain ⟨t36103, A40, H⟩ := H
    replace H : (if t36103.size + 1 ≤ 9223372036854775807 then ((virgateref01_Num.f k a0_1).bind fun t36104 => (if (t36103 ++ (⟨#[47]⟩ : ByteArray)).size + t36104.size ≤ 9223372036854775807 then (some ((t36103 ++ (⟨#[47]⟩ : ByteArray)) ++ t36104)) else (none))) else (none)) = some r := H
    have A4 := Aside0.mk A40
    clear A40
    by_cases c5 : t36103.size + 1 ≤ 9223372036854775807
    · rw [if_pos c5] at H
      have c5b0 := eq_true c5
      have c5b1 : decide (t36103.size + 1 ≤ 9223372036854775807) = true := decide_eq_true c5
      try have c5b2 : (9223372036854775807 < t36103.size + 1) = False := eq_false (Nat.not_lt.2 c5)
      replace H := Option.bind_eq_some_iff.mp H
      obtain ⟨t36104, A60, H⟩ := H
      replace H : (if (t36103 ++ (⟨#[47]⟩ : ByteArray)).size + t36104.size ≤ 9223372036854775807 then (some ((t36103 ++ (⟨#[47]⟩ : ByteArray)) ++ t36104)) else (none)) = some r := H
      have A6 := Aside0.mk A60
      clear A60
      by_cases c7 : (t36103 ++ (⟨#[47]⟩ : ByteArray)).size + t36104.size ≤ 9223372036854775807
      · rw [if_pos c7] at H
        have c7b0 := eq_true c7
        have c7b1 : decide ((t36103 ++ (⟨#[47]⟩ : ByteArray)).size + t36104.size ≤ 9223372036854775807) = true := decide_eq_true c7
        try have c7b2 : (9223372036854775807 < (t36103 ++ (⟨#[47]⟩ : ByteArray)).size + t36104.size) = False := eq_false (Nat.not_lt.2 c7)
        try have c7s1 : ¬ 9223372036854775807 < t36103.size + 1 + t36104.size := by have h_ := c7; simp only [ByteArray.size_append] at h_; exact Nat.not_lt.2 h_
        try have c7s2 := eq_false c7s1
        obtain rfl := Option.some.inj H
        go_enter Tryd.func36, Tryd.ntmps36
        try go_wp2_with (first | ((with_reducible refine gate_dst (N := 1) rfl ?_); refine box_event ?hg (N := 1) ?hd (cs := #[.int .u32 a0_0, .int .i64 a0_1]) (t := 44) ?hr ?_; (case hd => rfl); (case hg => rfl); (case hr => first | (go_simp; done) | (go_simp; rfl)); intro gb36101 hg w8 hbox hb; have n0_ := Aside0.mk (below_step (by repeat (first | (with_reducible first | exact HB.out | apply below_alloc | apply pw_below_drewN | apply below_drew1) | exact HB.out)) hb); have n1_ := Aside0.mk (hbox); have n2_ := Aside0.mk ((by rw [hg]; exact (below_size (by repeat (first | (with_reducible first | exact HB.out | apply below_alloc | apply pw_below_drewN | apply below_drew1) | exact HB.out))) : w.heap.size ≤ gb36101)); have n3_ := Aside0.mk ((by rw [hg]; exact (below_size (by repeat (first | (with_reducible first | exact HB.out | apply below_alloc | apply pw_below_drewN | apply below_drew1) | exact HB.out))) : w.heap.size ≤ gb36101)); clear HB; have HB := n0_; have BK36101 := n1_; have GW36101 := n2_; have GE36101 := n3_; clear n0_ n1_ n2_ n3_; clear hb hbox hg; have hcz9_0 : w8.cell? ⟨gb36101, 0, none⟩ = some (.int .u32 a0_0) := (blk_cell BK36101.out 0).trans rfl; have hcz9_1 : w8.cell? ⟨gb36101, 1, none⟩ = some (.int .i64 a0_1) := (blk_cell BK36101.out 1).trans rfl; have hfz9_0 := blk_frozen BK36101.out 0; have hfz9_1 := blk_frozen BK36101.out 1) | ((with_reducible refine gate_callee (f := 35) rfl ?_); refine goesL_ (some 4) rfl rfl Tryd.func35 (by kernel_rfl) rfl #[.agg #[.int .u32 a0_0, .int .i64 a0_1]] rfl (by (try simp only [List.map_toArray, List.map_cons, List.map_nil]); first | done | rfl | (simp only [List.length_drop, List.length_take]; rfl)) ?_; (with_reducible refine (virgateref02_May.calls k a0_0 a0_1 true _ A2.out).mono ?_); rintro e w10 ⟨rfl, hb⟩; refine ⟨_, rfl, ?_⟩; have n0_ := Aside0.mk (blk_below (g := gb36101) (o := .cells #[.int .u32 a0_0, .int .i64 a0_1] 44 (0, 0)) (by (with_reducible repeat (first | refine blk_drewN ?_ _ | refine blk_drew ?_ | refine blk_alloc ?_ _)); exact BK36101.out) hb); have n1_ := Aside0.mk (below_step (by repeat (first | (with_reducible first | exact HB.out | apply below_alloc | apply pw_below_drewN | apply below_drew1 | refine below_set ?_ GE36101.out) | exact HB.out)) hb); clear BK36101; clear HB; have BK36101 := n0_; have HB := n1_; clear n0_ n1_; (try clear hb); (try clear hb2); (try clear hk); (try clear hi)))
        have n0_ := Aside0.mk (blk_drew BK36101.out)
        have n1_ := Aside0.mk (below_drew1 HB.out)
        clear BK36101
        clear HB
        have BK36101 := n0_
        have HB := n1_
        clear n0_ n1_
        refine start_ (n := 9) (S := fun w' => w'.cell? ⟨gb36101, 0, none⟩ = some (.int .u32 a0_0) ∧ w'.cell? ⟨gb36101, 1, none⟩ = some (.int .i64 a0_1)) (ds := []) #[false, false, false, false, false, false, false, false, false] (by kernel_rfl) rfl rfl ⟨(blk_cell BK36101.out 0).trans rfl, (blk_cell BK36101.out 1).trans rfl⟩ (fun hHeld => ?_); refine with_tabW virgateref02_Print.tab3 virgateref02_Print.bits3 (fun HT_ HW_ => ?_)
        generalize w10.drew = w11 at BK36101 HB hHeld ⊢
        refine pure_ (i := 0) (N := some 6) (v := ?_) (a' := ?_) #[true, false, false, false, false, false, false, false, false] rfl rfl (any_of HT_.out (by kernel_rfl)) (fun _ _ _ h => h) (Or.inl ⟨by rfl, ?_⟩) ?_ ?_
        rotate_left
        · intro w'
          go_simp
          with_reducible rfl
        rotate_left
        · simp only [Act.put, List.setIfInBounds_toArray, List.set_cons_zero, List.set_cons_succ, i64_w, i32_w]
          rfl
        refine pure_ (i := 4) (N := some 10) (v := ?_) (a' := ?_) #[true, false, false, false, true, false, false, false, false] rfl rfl (any_of HT_.out (by kernel_rfl)) (fun _ _ _ h => h) (Or.inl ⟨by rfl, ?_⟩) ?_ ?_
        rotate_left
        · intro w'
          go_simp
          with_reducible rfl
        rotate_left
        · simp only [Act.put, List.setIfInBounds_toArray, List.set_cons_zero, List.set_cons_succ, i64_w, i32_w]
          rfl
        refine take_ (i := 1) (N := some 7) (v := ?_) (a' := ?_) #[true, true, false, false, true, false, false, false, false] rfl rfl (take_ofW HT_.out HW_.out (by kernel_rfl)) (fun _ _ _ h => h) (Or.inl ⟨by rfl, ?_⟩) hHeld ?_ ?_
        rotate_left
        · rintro w' ⟨s0, s1⟩
          go_simp
          with_reducible rfl
        rotate_left
        · simp only [Act.put, List.setIfInBounds_toArray, List.set_cons_zero, List.set_cons_succ, i64_w, i32_w]
          rfl
        refine take_ (i := 5) (N := some 11) (v := ?_) (a' := ?_) #[true, true, false, false, true, true, false, false, false] rfl rfl (take_ofW HT_.out HW_.out (by kernel_rfl)) (fun _ _ _ h => h) (Or.inl ⟨by rfl, ?_⟩) hHeld ?_ ?_
        rotate_left
        · rintro w' ⟨s0, s1⟩
          go_simp
          with_reducible rfl
        rotate_left
        · simp only [Act.put, List.setIfInBounds_toArray, List.set_cons_zero, List.set_cons_succ, i64_w, i32_w]
          rfl
        refine one_ (i := 2) (N := some 8) #[true, true, true, false, true, true, false, false, false] rfl rfl (one_of HT_.out (by kernel_rfl)) (by decide) (fun K hK => ?_)
        refine goes_ Tryd.func20 (by kernel_rfl) rfl #[.int .u32 a0_0] (by rfl) rfl rfl (by (try simp only [List.map_toArray, List.map_cons, List.map_nil]); first | done | rfl | (simp only [List.length_drop, List.length_take]; rfl)) ?_
        with_reducible refine (virgateref01_Print.calls k a0_0 t36103 _ A4.out).mono ?_
        rintro e w12 ⟨rfl, hb⟩
        refine ⟨_, rfl, ?_⟩
        have n0_ := Aside0.mk (blk_below (g := gb36101) (o := .cells #[.int .u32 a0_0, .int .i64 a0_1] 44 (0, 0)) (by (with_reducible repeat (first | refine blk_drewN ?_ _ | refine blk_drew ?_ | refine blk_alloc ?_ _)); exact BK36101.out) hb)
        have n1_ := Aside0.mk (below_step (by repeat (first | (with_reducible first | exact HB.out | apply below_alloc | apply pw_below_drewN | apply below_drew1 | refine below_set ?_ GE36101.out) | exact HB.out)) hb)
        clear BK36101
        clear HB
        have BK36101 := n0_
        have HB := n1_
        clear n0_ n1_
        (try clear hb)
        (try clear hb2)
        (try clear hk)
        (try clear hi)
        refine hK.out _ _ ⟨(blk_cell BK36101.out 0).trans rfl, (blk_cell BK36101.out 1).trans rfl⟩ (fun hHeld => ?_)
        clear hK K
        refine norm_ (a' := ?_) ?_ ?_
        rotate_left
        · show Act.put _ (some 8) _ = _
          simp only [Act.put, List.setIfInBounds_toArray, List.set_cons_zero, List.set_cons_succ, i64_w, i32_w]
          rfl
        refine pure_ (i := 3) (N := some 9) (v := ?_) (a' := ?_) #[true, true, true, true, true, true, false, false, false] rfl rfl (any_of HT_.out (by kernel_rfl)) (fun _ _ _ h => h) (Or.inl ⟨by rfl, ?_⟩) ?_ ?_
        rotate_left
        · intro w'
          go_simp
          with_reducible rfl
        rotate_left
        · simp only [Act.put, List.setIfInBounds_toArray, List.set_cons_zero, List.set_cons_succ, i64_w, i32_w]
          rfl
        refine one_ (i := 6) (N := some 12) #[true, true, true, true, true, true, true, false, false] rfl rfl (one_of HT_.out (by kernel_rfl)) (by decide) (fun K hK => ?_)
        refine goes_ Tryd.func81 (by kernel_rfl) rfl #[.int .i64 a0_1] (by rfl) rfl rfl (by (try simp only [List.map_toArray, List.map_cons, List.map_nil]); first | done | rfl | (simp only [List.length_drop, List.length_take]; rfl)) ?_
        with_reducible refine (virgateref01_Num.calls k a0_1 t36104 _ A6.out).mono ?_
        rintro e w13 ⟨rfl, hb⟩
        refine ⟨_, rfl, ?_⟩
        have n0_ := Aside0.mk (blk_below (g := gb36101) (o := .cells #[.int .u32 a0_0, .int .i64 a0_1] 44 (0, 0)) (by (with_reducible repeat (first | refine blk_drewN ?_ _ | refine blk_drew ?_ | refine blk_alloc ?_ _)); exact BK36101.out) hb)
        have n1_ := Aside0.mk (below_step (by repeat (first | (with_reducible first | exact HB.out | apply below_alloc | apply pw_below_drewN | apply below_drew1 | refine below_set ?_ GE36101.out) | exact HB.out)) hb)
        clear BK36101
        clear HB
        have BK36101 := n0_
        have HB := n1_
        clear n0_ n1_
        (try clear hb)
        (try clear hb2)
        (try clear hk)
        (try clear hi)
        refine hK.out _ _ ⟨(blk_cell BK36101.out 0).trans rfl, (blk_cell BK36101.out 1).trans rfl⟩ (fun hHeld => ?_)
        clear hK K
        refine norm_ (a' := ?_) ?_ ?_
        rotate_left
        · show Act.put _ (some 12) _ = _
          simp only [Act.put, List.setIfInBounds_toArray, List.set_cons_zero, List.set_cons_succ, i64_w, i32_w]
          rfl
        refine pure_ (i := 7) (N := some 13) (v := ?_) (a' := ?_) #[true, true, true, true, true, true, true, true, false] rfl rfl (any_of HT_.out (by kernel_rfl)) (fun _ _ _ h => h) (Or.inl ⟨by rfl, ?_⟩) ?_ ?_
        rotate_left
        · intro w'
          go_simp
          with_reducible rfl
        rotate_left
        · simp only [Act.put, List.setIfInBounds_toArray, List.set_cons_zero, List.set_cons_succ, i64_w, i32_w]
          rfl
        refine pure_ (i := 8) (N := some 2) (v := ?_) (a' := ?_) #[true, true, true, true, true, true, true, true, true] rfl rfl (any_of HT_.out (by kernel_rfl)) (fun _ _ _ h => h) (Or.inl ⟨by rfl, ?_⟩) ?_ ?_
        rotate_left
        · intro w'
          go_simp
          with_reducible rfl
        rotate_left
        · simp only [Act.put, List.setIfInBounds_toArray, List.set_cons_zero, List.set_cons_succ, i64_w, i32_w]
          rfl
        refine done_ (done_of HT_.out (by kernel_rfl)) ?_
        try go_wp2
        go_ret
        exact ⟨by first | rfl | (simp [errW_none, errW_some] <;> rfl) | (simp [*, errW_none, errW_some] <;> rfl), by repeat (first | (with_reducible first | exact HB.out | apply below_alloc | apply pw_below_drewN | apply below_drew1 | refine below_set ?_ GE36101.out) | exact HB.out)⟩
      · rw [if_neg c7] at H
        exact absurd H (by simp)
    · rw [if_neg c5] at H
      exact absurd H (by simp)
  · replace c3 := Bool.eq_false_iff.mpr c3
    subst c3
    have H1 : (some (⟨#[]⟩ : ByteArray)) = some r := by rw [if_neg (show ¬ (false = true) by decide)] at H; exact H
    clear H
    have H := H1
    clear H1
    obtain rfl := Option.some.inj H
    go_enter Tryd.func36, Tryd.ntmps36
    go_wp2_with (first | ((with_reducible refine gate_dst (N := 1) rfl ?_); refine box_event ?hg (N := 1) ?hd (cs := #[.int .u32 a0_0, .int .i64 a0_1]) (t := 44) ?hr ?_; (case hd => rfl); (case hg => rfl); (case hr => first | (go_simp; done) | (go_simp; rfl)); intro gb36101 hg w14 hbox hb; have n0_ := Aside0.mk (below_step (by repeat (first | (with_reducible first | exact HB.out | apply below_alloc | apply pw_below_drewN | apply below_drew1) | exact HB.out)) hb); have n1_ := Aside0.mk (hbox); have n2_ := Aside0.mk ((by rw [hg]; exact (below_size (by repeat (first | (with_reducible first | exact HB.out | apply below_alloc | apply pw_below_drewN | apply below_drew1) | exact HB.out))) : w.heap.size ≤ gb36101)); have n3_ := Aside0.mk ((by rw [hg]; exact (below_size (by repeat (first | (with_reducible first | exact HB.out | apply below_alloc | apply pw_below_drewN | apply below_drew1) | exact HB.out))) : w.heap.size ≤ gb36101)); clear HB; have HB := n0_; have BK36101 := n1_; have GW36101 := n2_; have GE36101 := n3_; clear n0_ n1_ n2_ n3_; clear hb hbox hg; have hcz15_0 : w14.cell? ⟨gb36101, 0, none⟩ = some (.int .u32 a0_0) := (blk_cell BK36101.out 0).trans rfl; have hcz15_1 : w14.cell? ⟨gb36101, 1, none⟩ = some (.int .i64 a0_1) := (blk_cell BK36101.out 1).trans rfl; have hfz15_0 := blk_frozen BK36101.out 0; have hfz15_1 := blk_frozen BK36101.out 1) | ((with_reducible refine gate_callee (f := 35) rfl ?_); refine goesL_ (some 4) rfl rfl Tryd.func35 (by kernel_rfl) rfl #[.agg #[.int .u32 a0_0, .int .i64 a0_1]] rfl (by (try simp only [List.map_toArray, List.map_cons, List.map_nil]); first | done | rfl | (simp only [List.length_drop, List.length_take]; rfl)) ?_; (with_reducible refine (virgateref02_May.calls k a0_0 a0_1 false _ A2.out).mono ?_); rintro e w16 ⟨rfl, hb⟩; refine ⟨_, rfl, ?_⟩; have n0_ := Aside0.mk (blk_below (g := gb36101) (o := .cells #[.int .u32 a0_0, .int .i64 a0_1] 44 (0, 0)) (by (with_reducible repeat (first | refine blk_drewN ?_ _ | refine blk_drew ?_ | refine blk_alloc ?_ _)); exact BK36101.out) hb); have n1_ := Aside0.mk (below_step (by repeat (first | (with_reducible first | exact HB.out | apply below_alloc | apply pw_below_drewN | apply below_drew1 | refine below_set ?_ GE36101.out) | exact HB.out)) hb); clear BK36101; clear HB; have BK36101 := n0_; have HB := n1_; clear n0_ n1_; (try clear hb); (try clear hb2); (try clear hk); (try clear hi)))
    go_ret
    exact ⟨by first | rfl | (simp [errW_none, errW_some] <;> rfl) | (simp [*, errW_none, errW_some] <;> rfl), by repeat (first | (with_reducible first | exact HB.out | apply below_alloc | apply pw_below_drewN | apply below_drew1 | refine below_set ?_ GE36101.out) | exact HB.out)⟩

end Go.Proofs.YtcdopgkkieenjaaDoor.V
end

-- ICidrQ
section
/- A net's text, and which net a text is: plain. -/
namespace Go.Proofs.YtcdopgkkieenjaaDoor.V
open Go.RowKit Go.Proofs.YtcdopgkkieenjaaDoorW.PrintWords Go.Proofs.YtcdopgkkieenjaaDoorW.PrintLast Go.Proofs.YtcdopgkkieenjaaDoorW.PrintMore
set_option linter.unusedVariables false
set_option linter.unusedSimpArgs false

theorem cdig_all : ((List.range 33).all fun n => decide (cidr_digits.f 4 (n : Int) = some (decB n))) = true := by kernel_rfl
theorem cdig_f (n : Nat) (hn : n < 33) (k : Nat) (hk : 4 ≤ k) : cidr_digits.f k (n : Int) = some (decB n) :=
  up (fun k => cidr_digits.f k (n : Int)) (cidr_digits.mono _) hk (by have := List.all_eq_true.1 cdig_all n (List.mem_range.2 hn); simpa using this)
/-- A net's text; none, if it may not be. -/
def netText (a : Nat) (b : Int) : ByteArray := if mayN a b = true then ipText a ++ (⟨#[47]⟩ : ByteArray) ++ decB b.toNat else ⟨#[]⟩
theorem ipText_size (a : Nat) : (ipText a).size ≤ 15 := by
  have := ipText_length a
  unfold ipText
  simpa [ByteArray.size] using this
theorem may_nat {a : Nat} {b : Int} (h : mayN a b = true) : ∃ n : Nat, b = n ∧ n ≤ 32 ∧ a % sz n = 0 := by
  simp only [mayN, Bool.and_eq_true, decide_eq_true_eq] at h
  exact ⟨b.toNat, by omega, by omega, h.2⟩
theorem print_f (a : Nat) (ha : a < 4294967296) (b : Int) (k : Nat) (hk : 4 ≤ k) : cidr_Print.f k (a : Int) b = some (netText a b) := by
  unfold cidr_Print.f netText
  rw [may_f a ha, Option.bind_some]
  cases hm : mayN a b with
  | false => rfl
  | true =>
    obtain ⟨n, rfl, hn, hd⟩ := may_nat hm
    have hp : ip_Print.f (a : Int) = some (ipText a) := by unfold ip_Print.f; rw [if_pos (by omega)]; rfl
    have h1 := ipText_size a; have h2 := decB_size n
    rw [if_pos rfl, hp, Option.bind_some, if_pos (by omega), cdig_f n (by omega) k hk, Option.bind_some, if_pos (by rw [ByteArray.size_append, lit1]; omega)]
    rfl
theorem rnum_f (n : Nat) (hn : n < 256) (k : Nat) (hk : 4 ≤ k) : virgateref01_Num.f k (n : Int) = some (decB n) := by
  unfold virgateref01_Num.f
  rw [num_f n hn k hk]
  rfl
theorem rprint2_f (a : Nat) (ha : a < 4294967296) (b : Int) (k : Nat) (hk : 40 ≤ k) : virgateref02_Print.f k (a : Int) b = some (netText a b) := by
  unfold virgateref02_Print.f netText
  rw [rmay_f a ha b k (by omega), Option.bind_some]
  cases hm : mayN a b with
  | false => rfl
  | true =>
    obtain ⟨n, rfl, hn, hd⟩ := may_nat hm
    have h1 := ipText_size a; have h2 := decB_size n
    rw [if_pos rfl, rprint_f a ha k (by omega), Option.bind_some, if_pos (by omega), rnum_f n (by omega) k (by omega), Option.bind_some, if_pos (by rw [ByteArray.size_append, lit1]; omega)]
    rfl

/-- The number that one or two signs are, digits or not. -/
def numB (b : ByteArray) : Nat → Int
  | 0 => 0
  | j + 1 => 10 * numB b j + bt b (j : Int) - 48
/-- Which net a text is, as cidr.Parse says it. -/
def cidrR (s : ByteArray) : Int × Int × Int :=
  if (cutB 47 s).2.2 = true ∧ (parseR (cutB 47 s).1).2 = 0 ∧ 1 ≤ (cutB 47 s).2.1.size ∧ (cutB 47 s).2.1.size ≤ 2 ∧ netText (parseR (cutB 47 s).1).1.toNat (numB (cutB 47 s).2.1 (cutB 47 s).2.1.size) = s
  then ((parseR (cutB 47 s).1).1, numB (cutB 47 s).2.1 (cutB 47 s).2.1.size, 0) else (0, 0, 3)
end Go.Proofs.YtcdopgkkieenjaaDoor.V
end

-- ICidrR
section
/- Which net a text is: the program's way and the document's are one. -/
namespace Go.Proofs.YtcdopgkkieenjaaDoor.V
open Go.RowKit Go.Proofs.YtcdopgkkieenjaaDoorW.PrintWords Go.Proofs.YtcdopgkkieenjaaDoorW.PrintLast Go.Proofs.YtcdopgkkieenjaaDoorW.PrintMore
set_option linter.unusedVariables false
set_option linter.unusedSimpArgs false

/-! ### Cut at the first c -/
theorem index_app (c : UInt8) (y : List UInt8) : ∀ x : List UInt8, c ∉ x → Lib.indexByte (x ++ c :: y) c = (x.length : Int)
  | [], _ => by simp [Lib.indexByte]
  | b :: x, h => by
    have h1 : ¬ b = c := fun e => h (by simp [e])
    have ih := index_app c y x (fun e => h (by simp [e]))
    rw [List.cons_append, Lib.indexByte, ih]
    have n1 : ¬ ((x.length : Int) = -1) := by omega
    simp [h1, n1]
theorem index_split (c : UInt8) : ∀ (l : List UInt8) (i : Nat), Lib.indexByte l c = (i : Int) → l = l.take i ++ c :: l.drop (i + 1) ∧ c ∉ l.take i ∧ i < l.length
  | [], i, h => by simp [Lib.indexByte] at h
  | b :: l, i, h => by
    rw [Lib.indexByte] at h
    by_cases hb : b = c
    · subst hb
      simp at h
      obtain rfl : i = 0 := by omega
      simp
    · have hb' : (b == c) = false := by simpa using hb
      rw [hb'] at h
      simp only [Bool.false_eq_true, if_false] at h
      by_cases hm : Lib.indexByte l c = -1
      · simp [hm] at h
      · have hg := Lib.indexByte_ge l c
        have hm' : (Lib.indexByte l c == -1) = false := by simpa using hm
        rw [hm'] at h
        simp only [Bool.false_eq_true, if_false] at h
        obtain ⟨j, rfl⟩ : ∃ j, i = j + 1 := ⟨i - 1, by omega⟩
        obtain ⟨h1, h2, h3⟩ := index_split c l j (by omega)
        refine ⟨by rw [List.take_succ_cons, List.drop_succ_cons, List.cons_append, ← h1], ?_, by simp; omega⟩
        rw [List.take_succ_cons]
        intro hc
        rcases List.mem_cons.1 hc with h | h
        · exact hb h.symm
        · exact h2 h
theorem cut_true (c : UInt8) (s : ByteArray) (h : (cutB c s).2.2 = true) : s.data.toList = (cutB c s).1.data.toList ++ c :: (cutB c s).2.1.data.toList ∧ c ∉ (cutB c s).1.data.toList := by
  unfold cutB at h ⊢
  by_cases hm : Lib.indexByte s.data.toList c = -1
  · rw [if_pos hm] at h; cases h
  · rw [if_neg hm]
    have hg := Lib.indexByte_ge s.data.toList c
    obtain ⟨i, hi⟩ : ∃ i : Nat, Lib.indexByte s.data.toList c = i := ⟨(Lib.indexByte s.data.toList c).toNat, by omega⟩
    obtain ⟨h1, h2, h3⟩ := index_split c _ i hi
    rw [hi]
    simp only [Int.toNat_natCast, Lib.extract_from_zero, Lib.extract_to_end]
    exact ⟨h1, h2⟩
theorem cut_of (c : UInt8) (s : ByteArray) (x y : List UInt8) (h : s.data.toList = x ++ c :: y) (hx : c ∉ x) : (cutB c s).1.data.toList = x ∧ (cutB c s).2.1.data.toList = y ∧ (cutB c s).2.2 = true := by
  have hi := index_app c y x hx
  rw [← h] at hi
  unfold cutB
  rw [if_neg (by omega), hi]
  simp only [Int.toNat_natCast, Lib.extract_from_zero, Lib.extract_to_end, h]
  refine ⟨by simp, ?_, trivial⟩
  rw [List.drop_append]
  simp
theorem cutAt_join (c : UInt8) : ∀ l : List UInt8, [c].intercalate (cutAt c l) = l
  | [] => rfl
  | b :: l => by
    have ih := cutAt_join c l
    unfold cutAt
    by_cases h : b = c
    · subst h
      rw [if_pos rfl]
      cases hc : cutAt b l with
      | nil => exact absurd hc (cutAt_ne b l)
      | cons p r =>
        rw [hc] at ih
        simp [List.intercalate] at ih ⊢
        exact ih
    · rw [if_neg h]
      cases hc : cutAt c l with
      | nil => exact absurd hc (cutAt_ne c l)
      | cons p r =>
        rw [hc] at ih
        cases r with
        | nil => simp [List.intercalate] at ih ⊢; exact ih
        | cons q r => simp [List.intercalate] at ih ⊢; exact ih
theorem byteAt_of (a b c d : Nat) (ha : a < 256) (hb : b < 256) (hc : c < 256) (hd : d < 256) :
    byteAt (((a * 256 + b) * 256 + c) * 256 + d) 0 = a ∧ byteAt (((a * 256 + b) * 256 + c) * 256 + d) 1 = b ∧ byteAt (((a * 256 + b) * 256 + c) * 256 + d) 2 = c ∧ byteAt (((a * 256 + b) * 256 + c) * 256 + d) 3 = d := by
  unfold byteAt
  simp only [Nat.sub_zero, Nat.sub_self]
  omega
theorem ipOf_inv {l : List UInt8} {v : Nat} (h : ipOf l = some v) : l = ipL v ∧ v < 4294967296 := by
  unfold ipOf at h
  have hj := cutAt_join 46 l
  generalize cutAt 46 l = ps at h hj
  match ps, h with
  | [p, q, r, t], h =>
    simp only [ipOfP] at h
    obtain ⟨x, hx, h2⟩ := Option.bind_eq_some_iff.1 h
    obtain ⟨y, hy, h3⟩ := Option.bind_eq_some_iff.1 h2
    obtain ⟨z, hz, h4⟩ := Option.bind_eq_some_iff.1 h3
    obtain ⟨u, hu, h5⟩ := Option.bind_eq_some_iff.1 h4
    have hv := Option.some.inj h5
    clear h h2 h3 h4 h5
    obtain ⟨x1, rfl⟩ := byteOf_some hx
    obtain ⟨y1, rfl⟩ := byteOf_some hy
    obtain ⟨z1, rfl⟩ := byteOf_some hz
    obtain ⟨u1, rfl⟩ := byteOf_some hu
    have hb := byteAt_of x y z u x1 y1 z1 u1
    rw [hv] at hb
    refine ⟨?_, by omega⟩
    rw [← hj]
    unfold ipL
    rw [hb.1, hb.2.1, hb.2.2.1, hb.2.2.2]
    simp [List.intercalate]
theorem ipL_no (v : Nat) (c : UInt8) (hc : c < 46 ∨ 57 < c ∨ c = 47) : c ∉ ipL v := by
  have hn := fun i => decL_no (byteAt v i) (byteAt_lt v i) c (by
    rcases hc with h | h | h
    · exact .inl (by simp only [UInt8.lt_iff_toNat_lt] at h ⊢; have : (46 : UInt8).toNat = 46 := rfl; have : (48 : UInt8).toNat = 48 := rfl; omega)
    · exact .inr h
    · subst h; exact .inl (by decide))
  have h46 : c ≠ 46 := by
    rintro rfl
    rcases hc with h | h | h
    · exact absurd h (by decide)
    · exact absurd h (by decide)
    · exact absurd h (by decide)
  unfold ipL
  simp only [List.mem_append, List.mem_cons, not_or]
  exact ⟨hn 0, h46, hn 1, h46, hn 2, h46, hn 3⟩

/-- Which net a text is. -/
def netR (s : ByteArray) : Option (Nat × Nat) := if (cutB 47 s).2.2 = true then (ipOf (cutB 47 s).1.data.toList).bind fun v => (byteOf (cutB 47 s).2.1.data.toList).bind fun n => if n ≤ 32 ∧ v % sz n = 0 then some (v, n) else none else none
theorem may_mk {v n : Nat} (hn : n ≤ 32) (hd : v % sz n = 0) : mayN v (n : Int) = true := by
  simp [mayN, hd]
  omega
theorem netText_data {v n : Nat} (hn : n ≤ 32) (hd : v % sz n = 0) : (netText v (n : Int)).data.toList = ipL v ++ 47 :: decL n := by
  unfold netText
  rw [if_pos (may_mk hn hd), Int.toNat_natCast]
  simp [ipText_data, decB_data]
theorem numB_all : ((List.range 33).all fun n => decide (numB (decB n) (decB n).size = (n : Int)) && decide (1 ≤ (decB n).size) && decide ((decB n).size ≤ 2)) = true := by kernel_rfl
theorem data_ext {s t : ByteArray} (h : s.data.toList = t.data.toList) : s = t := ByteArray.ext (Array.ext' h)
theorem netR_inv {s : ByteArray} {v n : Nat} (h : netR s = some (v, n)) : v < 4294967296 ∧ n ≤ 32 ∧ v % sz n = 0 ∧ s = netText v (n : Int) ∧ (cutB 47 s).2.2 = true ∧ (cutB 47 s).1 = ipText v ∧ (cutB 47 s).2.1 = decB n := by
  unfold netR at h
  by_cases hc : (cutB 47 s).2.2 = true
  · rw [if_pos hc] at h
    obtain ⟨v', hv, h⟩ := Option.bind_eq_some_iff.1 h
    obtain ⟨n', hn, h⟩ := Option.bind_eq_some_iff.1 h
    split at h
    · rename_i hg
      have e := Option.some.inj h
      obtain ⟨rfl, rfl⟩ := Prod.mk.inj e
      obtain ⟨g1, g2⟩ := ipOf_inv hv
      obtain ⟨g3, g4⟩ := byteOf_some hn
      obtain ⟨g5, g6⟩ := cut_true 47 s hc
      refine ⟨g2, hg.1, hg.2, data_ext ?_, hc, data_ext ?_, eq_decB g4⟩
      · rw [netText_data hg.1 hg.2, g5, g1, g4]
      · rw [g1, ipText_data]
    · cases h
  · rw [if_neg hc] at h; cases h
theorem netR_text {v n : Nat} (hv : v < 4294967296) (hn : n ≤ 32) (hd : v % sz n = 0) : netR (netText v (n : Int)) = some (v, n) := by
  obtain ⟨h1, h2, h3⟩ := cut_of 47 (netText v (n : Int)) (ipL v) (decL n) (netText_data hn hd) (ipL_no v 47 (.inr (.inr rfl)))
  unfold netR
  rw [if_pos h3, h1, h2, ipOf_text v hv, Option.bind_some, byteOf_decL n (by omega), Option.bind_some, if_pos ⟨hn, hd⟩]
theorem cidrR_eq (s : ByteArray) : cidrR s = match netR s with | some (v, n) => ((v : Int), (n : Int), 0) | none => (0, 0, 3) := by
  cases h : netR s with
  | some q =>
    obtain ⟨v, n⟩ := q
    obtain ⟨h1, h2, h3, h4, h5, h6, h7⟩ := netR_inv h
    have hall := List.all_eq_true.1 numB_all n (List.mem_range.2 (by omega))
    simp only [Bool.and_eq_true, decide_eq_true_eq] at hall
    unfold cidrR
    rw [h5, h6, h7, parseR_text v h1, hall.1.1, Int.toNat_natCast, if_pos ⟨rfl, rfl, hall.1.2, hall.2, h4.symm⟩]
  | none =>
    unfold cidrR
    rw [if_neg]
    rintro ⟨h1, h2, h3, h4, h5⟩
    have hp : ∃ v : Nat, ipOf (cutB 47 s).1.data.toList = some v ∧ (parseR (cutB 47 s).1).1 = (v : Int) := by
      unfold parseR at h2 ⊢
      cases hi : ipOf (cutB 47 s).1.data.toList with
      | some v => exact ⟨v, rfl, rfl⟩
      | none => rw [hi] at h2; simp at h2
    obtain ⟨v, hv, e⟩ := hp
    rw [e, Int.toNat_natCast] at h5
    obtain ⟨g1, g2⟩ := ipOf_inv hv
    cases hm : mayN v (numB (cutB 47 s).2.1 (cutB 47 s).2.1.size) with
    | false =>
      unfold netText at h5
      rw [hm] at h5
      obtain ⟨g5, _⟩ := cut_true 47 s h1
      rw [← h5] at g5
      simp at g5
    | true =>
      obtain ⟨m, hm1, hm2, hm3⟩ := may_nat hm
      rw [hm1] at h5
      have := netR_text g2 hm2 hm3
      rw [h5, h] at this
      cases this

/-! ### The document's Parse -/
theorem rval32_all : ((List.range 33).all fun n => decide (virgateref01_Value.f 12 (decB n) 32 = some ((n : Int), true))) = true := by kernel_rfl
theorem rval32_f (s : ByteArray) (hs : s.size < 4611686018427387904) (k : Nat) (hk : s.size + 12 ≤ k) : virgateref01_Value.f k s 32 = some (match byteOf s.data.toList with | some n => if n ≤ 32 then ((n : Int), true) else (0, false) | none => (0, false)) := by
  have hno : (∀ n, byteOf s.data.toList = some n → 32 < n) → virgateref01_Value.f k s 32 = some (0, false) := by
    intro hno
    obtain ⟨r, h1, h2, h3⟩ := rval_l0 s hs 32 (by omega) s.size k 0 0 (by omega) (by omega) (by omega) (by omega) (by omega)
    unfold virgateref01_Value.f
    have e : r = (0, false) := by
      cases hr : r.2 with
      | false => rw [← h3 hr, ← hr]
      | true =>
        obtain ⟨n, hn, hn2, e⟩ := h2 hr
        have := hno n (by rw [e, byteOf_decL n hn])
        omega
    rw [← e]
    exact h1
  cases hb : byteOf s.data.toList with
  | some n =>
    obtain ⟨h1, h2⟩ := byteOf_some hb
    by_cases hn : n ≤ 32
    · have e := eq_decB h2
      subst e
      simp only [hn, if_true]
      refine up (fun k => virgateref01_Value.f k (decB n) 32) (virgateref01_Value.mono _ _) (show 12 ≤ k by omega) ?_
      have := List.all_eq_true.1 rval32_all n (List.mem_range.2 (by omega))
      simpa using this
    · simp only [hn, if_false]
      exact hno (fun m hm => by rw [hb] at hm; cases hm; omega)
  | none => exact hno (fun m hm => by rw [hb] at hm; cases hm)
end Go.Proofs.YtcdopgkkieenjaaDoor.V
end

-- IpBytes
section
/- IpBytes: the walk by hand. -/
namespace Go.Proofs.YtcdopgkkieenjaaDoor.V
open Go.RowKit Go.Proofs.YtcdopgkkieenjaaDoorW.PrintWords Go.Proofs.YtcdopgkkieenjaaDoorW.PrintLast Go.Proofs.YtcdopgkkieenjaaDoorW.PrintMore
set_option linter.unusedVariables false
set_option linter.unusedSimpArgs false

def arr4 (b0 b1 b2 b3 : Nat) : List Value := [.int .u8 (b0 : Int), .int .u8 (b1 : Int), .int .u8 (b2 : Int), .int .u8 (b3 : Int)]
theorem eqArr4 (d : Nat) (w : World) (b0 b1 b2 b3 : Nat) : (Op.equalIn (d + 2) 32 (.agg (arr4 b0 b1 b2 b3).toArray) (.agg (arr4 b0 b1 b2 b3).toArray)).run Tryd.prog w = .ok true w := by
  have h := run_equalIn_ints (P := Tryd.prog) w .u8 d 32 5 4 Tryd.underlying32 Tryd.underlying5 (fun _ => by kernel_rfl) [(b0 : Int), b1, b2, b3] [(b0 : Int), b1, b2, b3] rfl rfl
  rw [beq_self_eq_true] at h
  exact h
attribute [local go_sem high] eqArr4
def ipBytes5.T5 : Bool × List (List Nat × List Nat) := (true, [([], []), ([0], [0]), ([1], [1]), ([2], [2]), ([], []), ([], []), ([4, 5], [4, 5]), ([3, 6], [3, 6])])
def ipBytes5.B5 : List Nat := [0, 1, 3, 7, 0, 0, 48, 127]
theorem ipBytes5.tab5 : rtab .any (opsOf Tryd.f5 5) = ipBytes5.T5 := by kernel_rfl
theorem ipBytes5.bits5 : waitsOk ipBytes5.T5.2 ipBytes5.B5 = true := by kernel_rfl
def ipBytes7.T7 : Bool × List (List Nat × List Nat) := (true, [([], []), ([0], [0]), ([], []), ([1, 2], [1, 2]), ([3, 1], [3]), ([4], [4]), ([5, 4, 4], [4, 5]), ([6, 6, 4], [4, 6]), ([4], [4]), ([7, 8, 4], [4, 7, 8]), ([4, 9], [4, 9]), ([10, 7], [10]), ([11, 11], [11]), ([11, 12], [11, 12]), ([13, 12, 0, 1, 2, 3, 4, 5, 6, 7, 8, 9, 10, 11, 12, 13], [13])])
def ipBytes7.B7 : List Nat := [0, 1, 0, 7, 15, 31, 63, 127, 31, 511, 1023, 2047, 4095, 8191, 16383]
theorem ipBytes7.tab7 : rtab .any (opsOf Tryd.f5 7) = ipBytes7.T7 := by kernel_rfl
theorem ipBytes7.bits7 : waitsOk ipBytes7.T7.2 ipBytes7.B7 = true := by kernel_rfl
set_option maxHeartbeats 4000000 in
set_option maxRecDepth 100000 in
theorem ipBytes_any (a b0 b1 b2 b3 : Nat) (ha : a < 4294967296) (h0 : b0 < 256) (h1 : b1 < 256) (h2 : b2 < 256) (h3 : b3 < 256) (w : World) :
    Calls Tryd.prog 5 #[.int .u32 (a : Int), .agg (arr4 b0 b1 b2 b3).toArray] w fun e w' => e = .returned (.bool true) ∧ Below w.heap.size w w' := by
  have HA := Aside0.mk ha
  have HH := Aside0.mk (And.intro h0 (And.intro h1 (And.intro h2 h3)))
  clear ha h0 h1 h2 h3
  go_enter Tryd.func5, Tryd.ntmps5
  go_wp2_with (first
    | (refine step_box rfl 32 (.tmp 1) rfl (arr4 b0 b1 b2 b3) rfl ?_; intro g3 W3 hg3 HB3 hb3)
    | (go_at_call 23; refine (bytes_any a HA.out _).mono ?_; rintro e W4 ⟨rfl, hb4⟩)
    | (refine step_alloc rfl 32 rfl (bytesTo a 0) (fun _ => by kernel_rfl) ?_; intro g5 W5 hg5 HB5 hb5)
    | (refine step_store rfl 32 (.tmp 5) (.tmp 8) rfl _ ((bytesOf a).map (Value.int .u8)) rfl rfl 32 _ HB5 4 (by kernel_rfl) (by simp [bytesOf]) (by simp [bytesTo]) (by intro v hv; simp [bytesOf] at hv; rcases hv with rfl | rfl | rfl | rfl <;> rfl) ?_; intro W6 HB6 hg6))
  have H3 := Aside0.mk (((HB3.below hb4).below hb5).grown hg6 (by have := HB3.lt; have := hb4.size; intro h; cases h; omega))
  have H5 := Aside0.mk HB6
  have HB := Aside0.mk (((hb3.trans (hb4.mono hb3.size)).trans (hb5.mono (Nat.le_trans hb3.size hb4.size))).grown hg6 (Nat.le_trans (Nat.le_trans hb3.size hb4.size) hb5.size) (by intro k hk; cases hk; have := hb3.size; have := hb4.size; omega))
  have H35 := Aside0.mk (show g3 ≠ g5 by have := HB3.lt; have := hb4.size; omega)
  have G3 := Aside0.mk (show w.heap.size ≤ g3 from hg3)
  have G5 := Aside0.mk (show w.heap.size ≤ g5 by have := hb3.size; have := hb4.size; omega)
  clear HB3 HB5 HB6 hb3 hb4 hb5 hg6 hg3 hg5
  go_loopw [6] (fun i W => ∃ j : Nat, j ≤ 4 ∧ i = .int .i64 j ∧ Aside0 (Box W g3 (arr4 b0 b1 b2 b3) 32) ∧ Aside0 (Box W g5 ((bytesOf a).map (Value.int .u8)) 32) ∧ Aside0 (Below w.heap.size w W)) (fun i _ => 4 - (intOf i).toNat)
  case atStart => exact ⟨0, by omega, rfl, H3, H5, HB⟩
  case round =>
    clear H3 H5 HB
    obtain ⟨j, hj, rfl, H3, H5, HB⟩ := hrel
    obtain ⟨W, rfl⟩ : ∃ W : World, W = wr := ⟨_, rfl⟩
    by_cases hj2 : j < 4
    · have hjb : decide ((j : Int) < 4) = true := by simp; omega
      have HC := Aside0.mk (H5.out.cell j (.int .u8 (byteAt a j : Int)) (by rw [← bytesOf_get a j hj2]; simp [List.getElem?_map, List.getD, show j < (bytesOf a).length from hj2]))
      have hBy := fun w => virgateref01_Byte.calls 4 (a : Int) (j : Int) _ w (byte_f a HA.out j (by omega) 4 (by omega))
      have HW : Aside0 ((wrap64 (byteAt a j : Int) != (byteAt a j : Int)) = false) := ⟨by rw [wrap64_id _ (by omega) (by have := byteAt_lt a j; omega)]; simp⟩
      go_wp2
      refine start_ (n := 8) (S := fun w' => w'.cell? ⟨g5, j, none⟩ = some (.int .u8 (byteAt a j : Int))) (ds := []) #[false, false, false, false, false, false, false, false] (by kernel_rfl) rfl rfl HC.out (fun hHeld => ?_); refine with_tabW ipBytes5.tab5 ipBytes5.bits5 (fun HT_ HW_ => ?_)
      refine pure_ (i := 0) (N := some 13) (v := ?_) (a' := ?_) #[true, false, false, false, false, false, false, false] rfl rfl (any_of HT_.out (by kernel_rfl)) (fun _ _ _ h => h) (Or.inl ⟨by rfl, ?_⟩) ?_ ?_
      rotate_left
      · intro w'
        go_simp
        with_reducible rfl
      rotate_left
      · simp only [Act.put, List.setIfInBounds_toArray, List.set_cons_zero, List.set_cons_succ, i64_w, i32_w]
        rfl
      refine pure_ (i := 1) (N := some 14) (v := ?_) (a' := ?_) #[true, true, false, false, false, false, false, false] rfl rfl (any_of HT_.out (by kernel_rfl)) (fun _ _ _ h => h) (Or.inl ⟨by rfl, ?_⟩) ?_ ?_
      rotate_left
      · intro w'
        go_simp
        rw [if_pos (show (j : Int) < 4 by omega)]
      rotate_left
      · simp only [Act.put, List.setIfInBounds_toArray, List.set_cons_zero, List.set_cons_succ, i64_w, i32_w]
        rfl
      refine take_ (i := 2) (N := some 15) (v := ?_) (a' := ?_) #[true, true, true, false, false, false, false, false] rfl rfl (take_ofW HT_.out HW_.out (by kernel_rfl)) (fun _ _ _ h => h) (Or.inl ⟨by rfl, ?_⟩) hHeld ?_ ?_
      rotate_left
      · intro w' hS_
        go_simp
        with_reducible rfl
      rotate_left
      · simp only [Act.put, List.setIfInBounds_toArray, List.set_cons_zero, List.set_cons_succ, i64_w, i32_w]
        rfl
      refine pure_ (i := 3) (N := some 16) (v := ?_) (a' := ?_) #[true, true, true, true, false, false, false, false] rfl rfl (any_of HT_.out (by kernel_rfl)) (fun _ _ _ h => h) (Or.inl ⟨by rfl, ?_⟩) ?_ ?_
      rotate_left
      · intro w'
        go_simp
        with_reducible rfl
      rotate_left
      · simp only [Act.put, List.setIfInBounds_toArray, List.set_cons_zero, List.set_cons_succ, i64_w, i32_w]
        rfl
      refine pure_ (i := 4) (N := some 17) (v := ?_) (a' := ?_) #[true, true, true, true, true, false, false, false] rfl rfl (any_of HT_.out (by kernel_rfl)) (fun _ _ _ h => h) (Or.inl ⟨by rfl, ?_⟩) ?_ ?_
      rotate_left
      · intro w'
        go_simp
        with_reducible rfl
      rotate_left
      · simp only [Act.put, List.setIfInBounds_toArray, List.set_cons_zero, List.set_cons_succ, i64_w, i32_w]
        rfl
      refine pure_ (i := 5) (N := some 18) (v := ?_) (a' := ?_) #[true, true, true, true, true, true, false, false] rfl rfl (any_of HT_.out (by kernel_rfl)) (fun _ _ _ h => h) (Or.inl ⟨by rfl, ?_⟩) ?_ ?_
      rotate_left
      · intro w'
        go_simp
        with_reducible rfl
      rotate_left
      · simp only [Act.put, List.setIfInBounds_toArray, List.set_cons_zero, List.set_cons_succ, i64_w, i32_w]
        rfl
      refine one_ (i := 6) (N := some 19) #[true, true, true, true, true, true, true, false] rfl rfl (one_of HT_.out (by kernel_rfl)) (by decide) (fun K hK => ?_)
      refine goes_ Tryd.func24 (by kernel_rfl) rfl #[.int .u32 (a : Int), .int .i64 (j : Int)] (by rfl) rfl rfl (by (try simp only [List.map_toArray, List.map_cons, List.map_nil]); first | done | rfl) ?_
      refine (hBy _).mono ?_
      rintro e w' ⟨rfl, ⟨nd, rfl⟩⟩
      refine ⟨_, rfl, ?_⟩
      refine hK.out _ _ hHeld (fun hHeld => ?_)
      clear hK K
      refine norm_ (a' := ?_) ?_ ?_
      rotate_left
      · show Act.put _ (some 19) _ = _
        simp only [Act.put, List.setIfInBounds_toArray, List.set_cons_zero, List.set_cons_succ, i64_w, i32_w]
        rfl
      refine pure_ (i := 7) (N := some 20) (v := ?_) (a' := ?_) #[true, true, true, true, true, true, true, true] rfl rfl (any_of HT_.out (by kernel_rfl)) (fun _ _ _ h => h) (Or.inl ⟨by rfl, ?_⟩) ?_ ?_
      rotate_left
      · intro w'
        go_simp
        with_reducible rfl
      rotate_left
      · simp only [Act.put, List.setIfInBounds_toArray, List.set_cons_zero, List.set_cons_succ, i64_w, i32_w]
        rfl
      refine done_ (done_of HT_.out (by kernel_rfl)) ?_
      rw [HW.out]
      go_wp2
      exact ⟨⟨j + 1, by omega, by go_num, H3, H5, ⟨pw_below_drewN HB.out _⟩⟩, by simp [intOf]; omega⟩
    · have hjb : decide ((j : Int) < 4) = false := by simp; omega
      obtain rfl : j = 4 := by omega
      obtain ⟨N, hN⟩ : ∃ N : Nat, ((b0 * 256 + b1) * 256 + b2) * 256 + b3 = N := ⟨_, rfl⟩
      have hh := HH.out
      have hNl : N < 4294967296 := by omega
      have hbs := byteAt_of b0 b1 b2 b3 hh.1 hh.2.1 hh.2.2.1 hh.2.2.2
      rw [hN] at hbs
      have hbN : (bytesOf N).map (Value.int .u8) = arr4 b0 b1 b2 b3 := by unfold bytesOf arr4; rw [hbs.1, hbs.2.1, hbs.2.2.1, hbs.2.2.2]; rfl
      have hof : ∀ w, Calls Tryd.prog 25 #[.agg ((bytesOf a).map (Value.int .u8)).toArray] w fun e w' => e = .returned (.int .u32 (a : Int)) ∧ Below w.heap.size w w' := fun w => by
        have h := of_any _ _ _ _ (byteAt_lt a 0) (byteAt_lt a 1) (byteAt_lt a 2) (byteAt_lt a 3) w
        rw [byteAt_sum a HA.out] at h
        exact h
      have hof2 : ∀ w, Calls Tryd.prog 25 #[.agg (arr4 b0 b1 b2 b3).toArray] w fun e w' => e = .returned (.int .u32 (N : Int)) ∧ Below w.heap.size w w' := fun w => by
        have h := of_any b0 b1 b2 b3 hh.1 hh.2.1 hh.2.2.1 hh.2.2.2 w
        rw [hN] at h
        exact h
      have hby : ∀ w, Calls Tryd.prog 23 #[.int .u32 (N : Int)] w fun e w' => e = .returned (.agg (arr4 b0 b1 b2 b3).toArray) ∧ Below w.heap.size w w' := fun w => by
        have h := bytes_any N hNl w
        rw [hbN] at h
        exact h
      have haw : ∀ w, Calls Tryd.prog 21 #[] w fun e w' => e = .returned (.bool true) ∧ Below w.heap.size w w' := fun w => virgatelaw01_awake.calls true w awake01_f
      have haeq : ((a : Int) == (a : Int)) = true := beq_self_eq_true _
      have hlenAR : (Tryd.prog.info? 32).map (·.size) = some (arr4 b0 b1 b2 b3).length := by kernel_rfl
      clear HH hh hbs hbN
      go_wp2
      refine start_ (n := 15) (S := fun w' => Box w' g5 ((bytesOf a).map (Value.int .u8)) 32 ∧ Box w' g3 (arr4 b0 b1 b2 b3) 32) (ds := []) #[false, false, false, false, false, false, false, false, false, false, false, false, false, false, false] (by kernel_rfl) rfl rfl ⟨H5.out, H3.out⟩ (fun hHeld => ?_); refine with_tabW ipBytes7.tab7 ipBytes7.bits7 (fun HT_ HW_ => ?_)
      refine take_ (i := 0) (N := some 21) (v := ?_) (a' := ?_) #[true, false, false, false, false, false, false, false, false, false, false, false, false, false, false] rfl rfl (take_ofW HT_.out HW_.out (by kernel_rfl)) (fun _ _ _ h => h) (Or.inl ⟨by rfl, ?_⟩) hHeld ?_ ?_
      rotate_left
      · intro w' hS_
        refine run_load_box 32 (.tmp 5) ?_ g5 ?_ _ _ _ hS_.1 Tryd.underlying32 rfl (by kernel_rfl)
        rfl
        rfl
      rotate_left
      · simp only [Act.put, List.setIfInBounds_toArray, List.set_cons_zero, List.set_cons_succ, i64_w, i32_w]
        rfl
      refine pure_ (i := 2) (N := some 23) (v := ?_) (a' := ?_) #[true, false, true, false, false, false, false, false, false, false, false, false, false, false, false] rfl rfl (any_of HT_.out (by kernel_rfl)) (fun _ _ _ h => h) (Or.inl ⟨by rfl, ?_⟩) ?_ ?_
      rotate_left
      · intro w'
        go_simp
        with_reducible rfl
      rotate_left
      · simp only [Act.put, List.setIfInBounds_toArray, List.set_cons_zero, List.set_cons_succ, i64_w, i32_w]
        rfl
      refine one_ (i := 1) (N := some 22) #[true, true, true, false, false, false, false, false, false, false, false, false, false, false, false] rfl rfl (one_of HT_.out (by kernel_rfl)) (by decide) (fun K hK => ?_)
      refine goes_ Tryd.func25 (by kernel_rfl) rfl #[.agg ((bytesOf a).map (Value.int .u8)).toArray] (by rfl) rfl rfl (by (try simp only [List.map_toArray, List.map_cons, List.map_nil]); first | done | rfl) ?_
      refine (hof _).mono ?_
      rintro e V1 ⟨rfl, hv1⟩
      refine ⟨_, rfl, ?_⟩
      have HB1 := below_step (below_drew1 HB.out) hv1
      refine hK.out _ _ ⟨hHeld.1.below hv1, hHeld.2.below hv1⟩ (fun hHeld => ?_)
      clear hK K
      refine norm_ (a' := ?_) ?_ ?_
      rotate_left
      · show Act.put _ (some 22) _ = _
        simp only [Act.put, List.setIfInBounds_toArray, List.set_cons_zero, List.set_cons_succ, i64_w, i32_w]
        rfl
      refine pure_ (i := 3) (N := some 24) (v := ?_) (a' := ?_) #[true, true, true, true, false, false, false, false, false, false, false, false, false, false, false] rfl rfl (any_of HT_.out (by kernel_rfl)) (fun _ _ _ h => h) (Or.inl ⟨by rfl, ?_⟩) ?_ ?_
      rotate_left
      · intro w'
        go_simp
        with_reducible rfl
      rotate_left
      · simp only [Act.put, List.setIfInBounds_toArray, List.set_cons_zero, List.set_cons_succ, i64_w, i32_w]
        rfl
      refine pure_ (i := 4) (N := some 25) (v := ?_) (a' := ?_) #[true, true, true, true, true, false, false, false, false, false, false, false, false, false, false] rfl rfl (any_of HT_.out (by kernel_rfl)) (fun _ _ _ h => h) (Or.inl ⟨by rfl, ?_⟩) ?_ ?_
      rotate_left
      · intro w'
        go_simp
        with_reducible rfl
      rotate_left
      · simp only [Act.put, List.setIfInBounds_toArray, List.set_cons_zero, List.set_cons_succ, i64_w, i32_w]
        rfl
      refine take_ (i := 5) (N := some 26) (v := ?_) (a' := ?_) #[true, true, true, true, true, true, false, false, false, false, false, false, false, false, false] rfl rfl (take_ofW HT_.out HW_.out (by kernel_rfl)) (fun _ _ _ h => h) (Or.inl ⟨by rfl, ?_⟩) hHeld ?_ ?_
      rotate_left
      · intro w' hS_
        refine run_load_box 32 (.tmp 3) ?_ g3 ?_ _ _ _ hS_.2 Tryd.underlying32 rfl hlenAR
        rfl
        rfl
      rotate_left
      · simp only [Act.put, List.setIfInBounds_toArray, List.set_cons_zero, List.set_cons_succ, i64_w, i32_w]
        rfl
      refine take_ (i := 8) (N := some 29) (v := ?_) (a' := ?_) #[true, true, true, true, true, true, false, false, true, false, false, false, false, false, false] rfl rfl (take_ofW HT_.out HW_.out (by kernel_rfl)) (fun _ _ _ h => h) (Or.inl ⟨by rfl, ?_⟩) hHeld ?_ ?_
      rotate_left
      · intro w' hS_
        refine run_load_box 32 (.tmp 3) ?_ g3 ?_ _ _ _ hS_.2 Tryd.underlying32 rfl hlenAR
        rfl
        rfl
      rotate_left
      · simp only [Act.put, List.setIfInBounds_toArray, List.set_cons_zero, List.set_cons_succ, i64_w, i32_w]
        rfl
      refine one_ (i := 6) (N := some 27) #[true, true, true, true, true, true, true, false, true, false, false, false, false, false, false] rfl rfl (one_of HT_.out (by kernel_rfl)) (by decide) (fun K hK => ?_)
      refine goes_ Tryd.func25 (by kernel_rfl) rfl #[.agg (arr4 b0 b1 b2 b3).toArray] (by rfl) rfl rfl (by (try simp only [List.map_toArray, List.map_cons, List.map_nil]); first | done | rfl) ?_
      refine (hof2 _).mono ?_
      rintro e V2 ⟨rfl, hv2⟩
      refine ⟨_, rfl, ?_⟩
      have HB2 := below_step HB1 hv2
      refine hK.out _ _ ⟨hHeld.1.below hv2, hHeld.2.below hv2⟩ (fun hHeld => ?_)
      clear hK K
      refine norm_ (a' := ?_) ?_ ?_
      rotate_left
      · show Act.put _ (some 27) _ = _
        simp only [Act.put, List.setIfInBounds_toArray, List.set_cons_zero, List.set_cons_succ, i64_w, i32_w]
        rfl
      refine one_ (i := 7) (N := some 28) #[true, true, true, true, true, true, true, true, true, false, false, false, false, false, false] rfl rfl (one_of HT_.out (by kernel_rfl)) (by decide) (fun K hK => ?_)
      refine goes_ Tryd.func23 (by kernel_rfl) rfl #[.int .u32 (N : Int)] (by rfl) rfl rfl (by (try simp only [List.map_toArray, List.map_cons, List.map_nil]); first | done | rfl) ?_
      refine (hby _).mono ?_
      rintro e V3 ⟨rfl, hv3⟩
      refine ⟨_, rfl, ?_⟩
      have HB3 := below_step HB2 hv3
      refine hK.out _ _ ⟨hHeld.1.below hv3, hHeld.2.below hv3⟩ (fun hHeld => ?_)
      clear hK K
      refine norm_ (a' := ?_) ?_ ?_
      rotate_left
      · show Act.put _ (some 28) _ = _
        simp only [Act.put, List.setIfInBounds_toArray, List.set_cons_zero, List.set_cons_succ, i64_w, i32_w]
        rfl
      refine pure_ (i := 9) (N := some 30) (v := ?_) (a' := ?_) #[true, true, true, true, true, true, true, true, true, true, false, false, false, false, false] rfl rfl (any_of HT_.out (by kernel_rfl)) (fun _ _ _ h => h) (Or.inl ⟨by rfl, ?_⟩) ?_ ?_
      rotate_left
      · intro w'
        go_simp
        with_reducible rfl
      rotate_left
      · simp only [Act.put, List.setIfInBounds_toArray, List.set_cons_zero, List.set_cons_succ, i64_w, i32_w]
        rfl
      refine pure_ (i := 10) (N := some 31) (v := ?_) (a' := ?_) #[true, true, true, true, true, true, true, true, true, true, true, false, false, false, false] rfl rfl (any_of HT_.out (by kernel_rfl)) (fun _ _ _ h => h) (Or.inl ⟨by rfl, ?_⟩) ?_ ?_
      rotate_left
      · intro w'
        go_simp
        with_reducible rfl
      rotate_left
      · simp only [Act.put, List.setIfInBounds_toArray, List.set_cons_zero, List.set_cons_succ, i64_w, i32_w]
        rfl
      refine pure_ (i := 11) (N := some 32) (v := ?_) (a' := ?_) #[true, true, true, true, true, true, true, true, true, true, true, true, false, false, false] rfl rfl (any_of HT_.out (by kernel_rfl)) (fun _ _ _ h => h) (Or.inl ⟨by rfl, ?_⟩) ?_ ?_
      rotate_left
      · intro w'
        go_simp
        with_reducible rfl
      rotate_left
      · simp only [Act.put, List.setIfInBounds_toArray, List.set_cons_zero, List.set_cons_succ, i64_w, i32_w]
        rfl
      refine one_ (i := 12) (N := some 33) #[true, true, true, true, true, true, true, true, true, true, true, true, true, false, false] rfl rfl (one_of HT_.out (by kernel_rfl)) (by decide) (fun K hK => ?_)
      refine goes_ Tryd.func21 (by kernel_rfl) rfl #[] (by rfl) rfl rfl (by (try simp only [List.map_toArray, List.map_cons, List.map_nil]); first | done | rfl) ?_
      refine (haw _).mono ?_
      rintro e V4 ⟨rfl, hv4⟩
      refine ⟨_, rfl, ?_⟩
      have HB4 := below_step HB3 hv4
      refine hK.out _ _ ⟨hHeld.1.below hv4, hHeld.2.below hv4⟩ (fun hHeld => ?_)
      clear hK K
      refine norm_ (a' := ?_) ?_ ?_
      rotate_left
      · show Act.put _ (some 33) _ = _
        simp only [Act.put, List.setIfInBounds_toArray, List.set_cons_zero, List.set_cons_succ, i64_w, i32_w]
        rfl
      refine pure_ (i := 13) (N := some 34) (v := ?_) (a' := ?_) #[true, true, true, true, true, true, true, true, true, true, true, true, true, true, false] rfl rfl (any_of HT_.out (by kernel_rfl)) (fun _ _ _ h => h) (Or.inl ⟨by rfl, ?_⟩) ?_ ?_
      rotate_left
      · intro w'
        go_simp
        with_reducible rfl
      rotate_left
      · simp only [Act.put, List.setIfInBounds_toArray, List.set_cons_zero, List.set_cons_succ, i64_w, i32_w]
        rfl
      refine pure_ (i := 14) (N := some 4) (v := ?_) (a' := ?_) #[true, true, true, true, true, true, true, true, true, true, true, true, true, true, true] rfl rfl (any_of HT_.out (by kernel_rfl)) (fun _ _ _ h => h) (Or.inl ⟨by rfl, ?_⟩) ?_ ?_
      rotate_left
      · intro w'
        go_simp
        with_reducible rfl
      rotate_left
      · simp only [Act.put, List.setIfInBounds_toArray, List.set_cons_zero, List.set_cons_succ, i64_w, i32_w]
        rfl
      refine done_ (done_of HT_.out (by kernel_rfl)) ?_
      try go_wp2
      go_ret
      exact ⟨rfl, HB4⟩
theorem ipBytes_walk (a0 : Int) (v : Value) (x : Nat × Nat × Nat × Nat) (w : World) (w0 : (Lit.int .u32 a0).wf = true) (h : ArrIs v x) : Calls Tryd.prog 5 #[.int .u32 a0, v] w fun e w' => e = .returned (.bool true) ∧ Below w.heap.size w w' := by
  obtain ⟨rfl, l0, l1, l2, l3⟩ := h
  obtain ⟨n, rfl, hn⟩ := wf_u32 w0
  exact ipBytes_any n _ _ _ _ hn l0 l1 l2 l3 w
end Go.Proofs.YtcdopgkkieenjaaDoor.V
end

