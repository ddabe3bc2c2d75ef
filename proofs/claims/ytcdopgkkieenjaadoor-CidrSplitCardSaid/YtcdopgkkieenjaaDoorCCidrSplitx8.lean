/- The law CidrSplit for every input: texts of ours, put together (part 9 of 11). No further condition. -/
import Derived.Test.YtcdopgkkieenjaaDoorCD3
import Derived.Test.YtcdopgkkieenjaaDoorCCidrSplitx7
import Derived.Test.YtcdopgkkieenjaaDoorCD6
import Derived.Test.YtcdopgkkieenjaaDoorCD5
-- VFVirgatelaw02Cidrsplit
-- PRINTED by print.py (a twelfth state) out of the translation. Not trusted: Lean checks it.
namespace Go.Proofs.YtcdopgkkieenjaaDoor.V
open Go.RowKit Go.Proofs.YtcdopgkkieenjaaDoorW.PrintWords Go.Proofs.YtcdopgkkieenjaaDoorW.PrintLast Go.Proofs.YtcdopgkkieenjaaDoorW.PrintMore
attribute [local go_sem] max2_int min2_int max_two min_two max_three min_three max_four min_four   -- for this text's walks alone
set_option linter.unusedVariables false
set_option linter.unusedSimpArgs false

attribute [local go_sem high] eqA46
/-! ### virgatelaw02_CidrSplit: function 12 -/
mutual
def virgatelaw02_CidrSplit.j0 : Nat → Int → Int → Int → Int → Bool → Int → Int → Int → Int → Int → Int → Option (Bool)
  | 0, _, _, _, _, _, _, _, _, _, _, _ => none
  | k + 1, x1, x2, x8, x10, x37, x12102000, x12102001, x12105000, x12105001, x12110000, x12110001 => if x37 = true then (if x10 = 1 then (if (x12110000 == 0 && (x12110001 == 0)) = true then ((virgatelaw02_awake.f k).bind fun t12111 => (some t12111)) else (some false)) else (some false)) else (if 0 ≤ (IntKind.u64.wrap (wrap64 (32 - x1))) then (if x10 = 0 then (if x12110001 = x1 then (if (wrap64 (x12110000)) = (wrap64 ((wrap64 (x12102000)) + (wrap64 (x2 * (shl .i64 1 (IntKind.u64.wrap (wrap64 (32 - x1)))))))) then ((cidr_Net_Covers.f x12105000 x12105001 x12110000 x12110001).bind fun t12112 => (virgatelaw02_CidrSplit.j1 k x1 x2 x8 (!t12112) x12105000 x12105001 x12110000 x12110001)) else (virgatelaw02_CidrSplit.j1 k x1 x2 x8 true x12105000 x12105001 x12110000 x12110001)) else (virgatelaw02_CidrSplit.j1 k x1 x2 x8 true x12105000 x12105001 x12110000 x12110001)) else (virgatelaw02_CidrSplit.j1 k x1 x2 x8 true x12105000 x12105001 x12110000 x12110001)) else (none))
def virgatelaw02_CidrSplit.j1 : Nat → Int → Int → Int → Bool → Int → Int → Int → Int → Option (Bool)
  | 0, _, _, _, _, _, _, _, _ => none
  | k + 1, x1, x2, x8, x78, x12105000, x12105001, x12110000, x12110001 => if x78 = true then (some false) else (if x2 = (wrap64 (x8 - 1)) then ((cidr_Net_Last.f x12110000 x12110001).bind fun t12113 => ((cidr_Net_Last.f x12105000 x12105001).bind fun t12114 => (if t12113 = t12114 then ((virgatelaw02_awake.f k).bind fun t12115 => (some t12115)) else (some false)))) else ((cidr_Net_Nth.f x12105000 x12105001 x1 (wrap64 (x2 + 1))).bind fun bt12116 => (if bt12116.2.2 = 0 then ((cidr_Net_Last.f x12110000 x12110001).bind fun t12120 => (if (wrap64 ((wrap64 (t12120)) + 1)) = (wrap64 (bt12116.1)) then ((virgatelaw02_awake.f k).bind fun t12121 => (some t12121)) else (some false))) else (some false))))
end
def virgatelaw02_CidrSplit.f (k : Nat) (a0_0 : Int) (a0_1 : Int) (a1 : Int) (a2 : Int) : Option (Bool) := (virgatelaw02_Ours.f a0_0 a0_1).bind fun bt12102 => ((virgateref02_Count.f k a0_0 a0_1 a1).bind fun t12105 => ((cidr_Net_Nth.f bt12102.1 bt12102.2 a1 a2).bind fun bt12106 => ((cidr_Net_Count.f bt12102.1 bt12102.2 a1).bind fun t12110 => (if t12110 = t12105 then (if a2 < 0 then (virgatelaw02_CidrSplit.j0 k a1 a2 t12105 bt12106.2.2 true a0_0 a0_1 bt12102.1 bt12102.2 bt12106.1 bt12106.2.1) else (virgatelaw02_CidrSplit.j0 k a1 a2 t12105 bt12106.2.2 (decide (a2 ≥ t12105)) a0_0 a0_1 bt12102.1 bt12102.2 bt12106.1 bt12106.2.1)) else (some false)))))
theorem virgatelaw02_CidrSplit.mono_l : ∀ k, (∀ y0 y1 y2 y3 y4 y5 y6 y7 y8 y9 y10, LeO (virgatelaw02_CidrSplit.j0 k y0 y1 y2 y3 y4 y5 y6 y7 y8 y9 y10) (virgatelaw02_CidrSplit.j0 (k + 1) y0 y1 y2 y3 y4 y5 y6 y7 y8 y9 y10)) ∧ (∀ y0 y1 y2 y3 y4 y5 y6 y7, LeO (virgatelaw02_CidrSplit.j1 k y0 y1 y2 y3 y4 y5 y6 y7) (virgatelaw02_CidrSplit.j1 (k + 1) y0 y1 y2 y3 y4 y5 y6 y7))
  | 0 => ⟨fun _ _ _ _ _ _ _ _ _ _ _ r h => by simp [virgatelaw02_CidrSplit.j0] at h, fun _ _ _ _ _ _ _ _ r h => by simp [virgatelaw02_CidrSplit.j1] at h⟩
  | k + 1 => by
    obtain ⟨ih0, ih1⟩ := virgatelaw02_CidrSplit.mono_l k
    refine ⟨?_, ?_⟩
    · intro y0 y1 y2 y3 y4 y5 y6 y7 y8 y9 y10
      unfold virgatelaw02_CidrSplit.j0
      repeat' first
      | (with_reducible exact ih0 _ _ _ _ _ _ _ _ _ _ _)
      | (with_reducible exact ih1 _ _ _ _ _ _ _ _)
      | (with_reducible exact virgatelaw02_awake.mono _)
      | (with_reducible exact virgateref02_Count.mono _ _ _ _)
      | (with_reducible exact LeO.refl _)
      | (with_reducible exact LeO.none _)
      | (with_reducible refine LeO.ite ?_ ?_)
      | (with_reducible refine LeO.bind ?_ (fun _ => ?_))
      | exact ih0 _ _ _ _ _ _ _ _ _ _ _
      | exact ih1 _ _ _ _ _ _ _ _
      | exact virgatelaw02_awake.mono _
      | exact virgateref02_Count.mono _ _ _ _
      | exact LeO.none _
      | refine LeO.ite ?_ ?_
      | refine LeO.bind ?_ (fun _ => ?_)
    · intro y0 y1 y2 y3 y4 y5 y6 y7
      unfold virgatelaw02_CidrSplit.j1
      repeat' first
      | (with_reducible exact ih0 _ _ _ _ _ _ _ _ _ _ _)
      | (with_reducible exact ih1 _ _ _ _ _ _ _ _)
      | (with_reducible exact virgatelaw02_awake.mono _)
      | (with_reducible exact virgateref02_Count.mono _ _ _ _)
      | (with_reducible exact LeO.refl _)
      | (with_reducible exact LeO.none _)
      | (with_reducible refine LeO.ite ?_ ?_)
      | (with_reducible refine LeO.bind ?_ (fun _ => ?_))
      | exact ih0 _ _ _ _ _ _ _ _ _ _ _
      | exact ih1 _ _ _ _ _ _ _ _
      | exact virgatelaw02_awake.mono _
      | exact virgateref02_Count.mono _ _ _ _
      | exact LeO.none _
      | refine LeO.ite ?_ ?_
      | refine LeO.bind ?_ (fun _ => ?_)
theorem virgatelaw02_CidrSplit.mono : ∀ a0 a1 a2 a3 k, LeO (virgatelaw02_CidrSplit.f k a0 a1 a2 a3) (virgatelaw02_CidrSplit.f (k + 1) a0 a1 a2 a3) := by
  intro a0 a1 a2 a3 k
  obtain ⟨ih0, ih1⟩ := virgatelaw02_CidrSplit.mono_l k
  unfold virgatelaw02_CidrSplit.f
  repeat' first
      | (with_reducible exact ih0 _ _ _ _ _ _ _ _ _ _ _)
      | (with_reducible exact ih1 _ _ _ _ _ _ _ _)
      | (with_reducible exact virgatelaw02_awake.mono _)
      | (with_reducible exact virgateref02_Count.mono _ _ _ _)
      | (with_reducible exact LeO.refl _)
      | (with_reducible exact LeO.none _)
      | (with_reducible refine LeO.ite ?_ ?_)
      | (with_reducible refine LeO.bind ?_ (fun _ => ?_))
      | exact ih0 _ _ _ _ _ _ _ _ _ _ _
      | exact ih1 _ _ _ _ _ _ _ _
      | exact virgatelaw02_awake.mono _
      | exact virgateref02_Count.mono _ _ _ _
      | exact LeO.none _
      | refine LeO.ite ?_ ?_
      | refine LeO.bind ?_ (fun _ => ?_)
def virgatelaw02_CidrSplit.T12 : Bool × List (List Nat × List Nat) := (true, [([], []), ([0], [0]), ([], []), ([2, 1], [2]), ([1, 3], [1, 3]), ([4, 3], [4]), ([5, 5], [5]), ([5, 6], [5, 6]), ([7, 6, 0, 1, 2, 3, 4, 5, 6, 7], [7])])
def virgatelaw02_CidrSplit.B12 : List Nat := [0, 1, 0, 7, 15, 31, 63, 127, 255]
theorem virgatelaw02_CidrSplit.tab12 : rtab .any (opsOf Tryd.f12 12) = virgatelaw02_CidrSplit.T12 := by kernel_rfl
theorem virgatelaw02_CidrSplit.bits12 : waitsOk virgatelaw02_CidrSplit.T12.2 virgatelaw02_CidrSplit.B12 = true := by kernel_rfl
def virgatelaw02_CidrSplit.T14 : Bool × List (List Nat × List Nat) := (true, [([], []), ([0], [0]), ([1], [1]), ([2], [2]), ([3, 2, 2], [2, 3]), ([4, 2], [2, 4]), ([5, 2], [2, 5]), ([2], [2]), ([7, 2], [2, 7]), ([8, 2], [2, 8]), ([6, 9, 2], [2, 6, 9]), ([2, 10], [2, 10]), ([11, 4], [11]), ([12, 12], [12]), ([12, 13], [12, 13]), ([14, 13, 0, 1, 2, 3, 4, 5, 6, 7, 8, 9, 10, 11, 12, 13, 14], [14])])
def virgatelaw02_CidrSplit.B14 : List Nat := [0, 1, 3, 7, 15, 31, 63, 7, 135, 391, 1023, 2047, 4095, 8191, 16383, 32767]
theorem virgatelaw02_CidrSplit.tab14 : rtab .any (opsOf Tryd.f12 14) = virgatelaw02_CidrSplit.T14 := by kernel_rfl
theorem virgatelaw02_CidrSplit.bits14 : waitsOk virgatelaw02_CidrSplit.T14.2 virgatelaw02_CidrSplit.B14 = true := by kernel_rfl
set_option maxHeartbeats 8000000 in
set_option maxRecDepth 100000 in
theorem virgatelaw02_CidrSplit.calls (k : Nat) (a0_0 : Int) (a0_1 : Int) (a1 : Int) (a2 : Int) (r : Bool) (w : World) (h : virgatelaw02_CidrSplit.f k a0_0 a0_1 a1 a2 = some r) :
    Calls Tryd.prog 12 #[.agg #[.int .u32 a0_0, .int .i64 a0_1], .int .i64 a1, .int .i64 a2] w fun e w' => e = .returned (.bool r) ∧ Below w.heap.size w w' := by
  have hu44 := Tryd.underlying44
  have hu46 := Tryd.underlying46
  have HB := Aside0.mk (Below.refl w.heap.size w)
  have H : ((virgatelaw02_Ours.f a0_0 a0_1).bind fun bt12102 => ((virgateref02_Count.f k a0_0 a0_1 a1).bind fun t12105 => ((cidr_Net_Nth.f bt12102.1 bt12102.2 a1 a2).bind fun bt12106 => ((cidr_Net_Count.f bt12102.1 bt12102.2 a1).bind fun t12110 => (if t12110 = t12105 then (if a2 < 0 then (virgatelaw02_CidrSplit.j0 k a1 a2 t12105 bt12106.2.2 true a0_0 a0_1 bt12102.1 bt12102.2 bt12106.1 bt12106.2.1) else (virgatelaw02_CidrSplit.j0 k a1 a2 t12105 bt12106.2.2 (decide (a2 ≥ t12105)) a0_0 a0_1 bt12102.1 bt12102.2 bt12106.1 bt12106.2.1)) else (some false)))))) = some r := h
  clear h
  replace H := Option.bind_eq_some_iff.mp H
  obtain ⟨⟨t12102, t12103⟩, A40, H⟩ := H
  replace H : ((virgateref02_Count.f k a0_0 a0_1 a1).bind fun t12105 => ((cidr_Net_Nth.f t12102 t12103 a1 a2).bind fun bt12106 => ((cidr_Net_Count.f t12102 t12103 a1).bind fun t12110 => (if t12110 = t12105 then (if a2 < 0 then (virgatelaw02_CidrSplit.j0 k a1 a2 t12105 bt12106.2.2 true a0_0 a0_1 t12102 t12103 bt12106.1 bt12106.2.1) else (virgatelaw02_CidrSplit.j0 k a1 a2 t12105 bt12106.2.2 (decide (a2 ≥ t12105)) a0_0 a0_1 t12102 t12103 bt12106.1 bt12106.2.1)) else (some false))))) = some r := H
  have A4 := Aside0.mk A40
  clear A40
  replace H := Option.bind_eq_some_iff.mp H
  obtain ⟨t12105, A50, H⟩ := H
  replace H : ((cidr_Net_Nth.f t12102 t12103 a1 a2).bind fun bt12106 => ((cidr_Net_Count.f t12102 t12103 a1).bind fun t12110 => (if t12110 = t12105 then (if a2 < 0 then (virgatelaw02_CidrSplit.j0 k a1 a2 t12105 bt12106.2.2 true a0_0 a0_1 t12102 t12103 bt12106.1 bt12106.2.1) else (virgatelaw02_CidrSplit.j0 k a1 a2 t12105 bt12106.2.2 (decide (a2 ≥ t12105)) a0_0 a0_1 t12102 t12103 bt12106.1 bt12106.2.1)) else (some false)))) = some r := H
  have A5 := Aside0.mk A50
  clear A50
  replace H := Option.bind_eq_some_iff.mp H
  obtain ⟨⟨t12106, t12107, t12108⟩, A60, H⟩ := H
  replace H : ((cidr_Net_Count.f t12102 t12103 a1).bind fun t12110 => (if t12110 = t12105 then (if a2 < 0 then (virgatelaw02_CidrSplit.j0 k a1 a2 t12105 t12108 true a0_0 a0_1 t12102 t12103 t12106 t12107) else (virgatelaw02_CidrSplit.j0 k a1 a2 t12105 t12108 (decide (a2 ≥ t12105)) a0_0 a0_1 t12102 t12103 t12106 t12107)) else (some false))) = some r := H
  have A6 := Aside0.mk A60
  clear A60
  replace H := Option.bind_eq_some_iff.mp H
  obtain ⟨t12110, A70, H⟩ := H
  replace H : (if t12110 = t12105 then (if a2 < 0 then (virgatelaw02_CidrSplit.j0 k a1 a2 t12105 t12108 true a0_0 a0_1 t12102 t12103 t12106 t12107) else (virgatelaw02_CidrSplit.j0 k a1 a2 t12105 t12108 (decide (a2 ≥ t12105)) a0_0 a0_1 t12102 t12103 t12106 t12107)) else (some false)) = some r := H
  have A7 := Aside0.mk A70
  clear A70
  by_cases c8 : t12110 = t12105
  · rw [if_pos c8] at H
    have c8b0 : (t12110 == t12105) = true := beq_iff_eq.mpr c8
    have c8b1 : (t12110 != t12105) = false := bne_eq_false_iff_eq.mpr c8
    clear c8
    have HC9 := Aside0.mk H
    clear H
    go_enter Tryd.func12, Tryd.ntmps12
    go_upto_region 6 with (first | ((with_reducible refine gate_dst (N := 3) rfl ?_); refine box_event ?hg (N := 3) ?hd (cs := #[.int .u32 a0_0, .int .i64 a0_1]) (t := 44) ?hr ?_; (case hd => rfl); (case hg => rfl); (case hr => first | (go_simp; done) | (go_simp; rfl)); intro gb12101 hg w10 hbox hb; have n0_ := Aside0.mk (below_step (by repeat (first | (with_reducible first | exact HB.out | apply below_alloc | apply pw_below_drewN | apply below_drew1) | exact HB.out)) hb); have n1_ := Aside0.mk (hbox); have n2_ := Aside0.mk ((by rw [hg]; exact (below_size (by repeat (first | (with_reducible first | exact HB.out | apply below_alloc | apply pw_below_drewN | apply below_drew1) | exact HB.out))) : w.heap.size ≤ gb12101)); have n3_ := Aside0.mk ((by rw [hg]; exact (below_size (by repeat (first | (with_reducible first | exact HB.out | apply below_alloc | apply pw_below_drewN | apply below_drew1) | exact HB.out))) : w.heap.size ≤ gb12101)); clear HB; have HB := n0_; have BK12101 := n1_; have GW12101 := n2_; have GE12101 := n3_; clear n0_ n1_ n2_ n3_; clear hb hbox hg; have hcz11_0 : w10.cell? ⟨gb12101, 0, none⟩ = some (.int .u32 a0_0) := (blk_cell BK12101.out 0).trans rfl; have hcz11_1 : w10.cell? ⟨gb12101, 1, none⟩ = some (.int .i64 a0_1) := (blk_cell BK12101.out 1).trans rfl; have hfz11_0 := blk_frozen BK12101.out 0; have hfz11_1 := blk_frozen BK12101.out 1) | ((with_reducible refine gate_callee (f := 33) rfl ?_); refine goesL_ (some 15) rfl rfl Tryd.func33 (by kernel_rfl) rfl #[.agg #[.int .u32 a0_0, .int .i64 a0_1]] rfl (by (try simp only [List.map_toArray, List.map_cons, List.map_nil]); first | done | rfl | (simp only [List.length_drop, List.length_take]; rfl)) ?_; (with_reducible refine (virgatelaw02_Ours.calls a0_0 a0_1 t12102 t12103 _ A4.out).mono ?_); rintro e w12 ⟨rfl, hb⟩; refine ⟨_, rfl, ?_⟩; have n0_ := Aside0.mk (blk_below (g := gb12101) (o := .cells #[.int .u32 a0_0, .int .i64 a0_1] 44 (0, 0)) (by (with_reducible repeat (first | refine blk_drewN ?_ _ | refine blk_drew ?_ | refine blk_alloc ?_ _)); exact BK12101.out) hb); have n1_ := Aside0.mk (below_step (by repeat (first | (with_reducible first | exact HB.out | apply below_alloc | apply pw_below_drewN | apply below_drew1 | refine below_set ?_ GE12101.out) | exact HB.out)) hb); clear BK12101; clear HB; have BK12101 := n0_; have HB := n1_; clear n0_ n1_; (try clear hb); (try clear hb2); (try clear hk); (try clear hi)) | ((with_reducible refine gate_dst (N := 7) rfl ?_); refine box_event ?hg (N := 7) ?hd (cs := #[.int .u32 0, .int .i64 0]) (t := 46) ?hr ?_; (case hd => rfl); (case hg => rfl); (case hr => first | (go_simp; done) | (go_simp; rfl)); intro gb12104 hg w13 hbox hb; have n0_ := Aside0.mk (blk_below (g := gb12101) (o := .cells #[.int .u32 a0_0, .int .i64 a0_1] 44 (0, 0)) (by (with_reducible repeat (first | refine blk_drewN ?_ _ | refine blk_drew ?_ | refine blk_alloc ?_ _)); exact BK12101.out) hb); have n1_ := Aside0.mk (below_step (by repeat (first | (with_reducible first | exact HB.out | apply below_alloc | apply pw_below_drewN | apply below_drew1 | refine below_set ?_ GE12101.out) | exact HB.out)) hb); have n2_ := Aside0.mk (hbox); have n3_ := Aside0.mk ((by rw [hg]; exact (below_size (by repeat (first | (with_reducible first | exact HB.out | apply below_alloc | apply pw_below_drewN | apply below_drew1 | refine below_set ?_ GE12101.out) | exact HB.out))) : w.heap.size ≤ gb12104)); have n4_ := Aside0.mk ((by rw [hg]; exact (below_size (by repeat (first | (with_reducible first | exact HB.out | apply below_alloc | apply pw_below_drewN | apply below_drew1 | refine below_set ?_ GE12101.out) | exact HB.out))) : w.heap.size ≤ gb12104)); have n5_ := Aside0.mk ((by rw [hg]; exact Nat.ne_of_lt (blk_lt (g := gb12101) (o := .cells #[.int .u32 a0_0, .int .i64 a0_1] 44 (0, 0)) (by (with_reducible repeat (first | refine blk_drewN ?_ _ | refine blk_drew ?_ | refine blk_alloc ?_ _)); exact BK12101.out)) : gb12101 ≠ gb12104)); have n6_ := Aside0.mk ((by rw [hg]; exact Nat.ne_of_gt (blk_lt (g := gb12101) (o := .cells #[.int .u32 a0_0, .int .i64 a0_1] 44 (0, 0)) (by (with_reducible repeat (first | refine blk_drewN ?_ _ | refine blk_drew ?_ | refine blk_alloc ?_ _)); exact BK12101.out)) : gb12104 ≠ gb12101)); clear BK12101; clear HB; have BK12101 := n0_; have HB := n1_; have BK12104 := n2_; have GW12104 := n3_; have GE12104 := n4_; have NB12101_12104 := n5_; have NB12104_12101 := n6_; clear n0_ n1_ n2_ n3_ n4_ n5_ n6_; clear hb hbox hg; have hnb14 := NB12104_12101.out; have hnc14 := NB12101_12104.out; have hcz15_0 : w13.cell? ⟨gb12104, 0, none⟩ = some (.int .u32 0) := (blk_cell BK12104.out 0).trans rfl; have hcz15_1 : w13.cell? ⟨gb12104, 1, none⟩ = some (.int .i64 0) := (blk_cell BK12104.out 1).trans rfl; have hfz15_0 := blk_frozen BK12104.out 0; have hfz15_1 := blk_frozen BK12104.out 1; have hcz16_0 : w13.cell? ⟨gb12101, 0, none⟩ = some (.int .u32 a0_0) := (blk_cell BK12101.out 0).trans rfl; have hcz16_1 : w13.cell? ⟨gb12101, 1, none⟩ = some (.int .i64 a0_1) := (blk_cell BK12101.out 1).trans rfl; have hfz16_0 := blk_frozen BK12101.out 0; have hfz16_1 := blk_frozen BK12101.out 1) | ((with_reducible refine gate_callee (f := 46) rfl ?_); refine goesL_ (some 18) rfl rfl Tryd.func46 (by kernel_rfl) rfl #[.agg #[.int .u32 a0_0, .int .i64 a0_1], .int .i64 a1] rfl (by (try simp only [List.map_toArray, List.map_cons, List.map_nil]); first | done | rfl | (simp only [List.length_drop, List.length_take]; rfl)) ?_; (with_reducible refine (virgateref02_Count.calls k a0_0 a0_1 a1 t12105 _ A5.out).mono ?_); rintro e w17 ⟨rfl, hb⟩; refine ⟨_, rfl, ?_⟩; have n0_ := Aside0.mk (blk_below (g := gb12101) (o := .cells #[.int .u32 a0_0, .int .i64 a0_1] 44 (0, 0)) (by (with_reducible repeat (first | refine blk_drewN ?_ _ | refine blk_drew ?_ | refine blk_alloc ?_ _)); refine blk_far ?_ NB12101_12104.out _; (with_reducible repeat (first | refine blk_drewN ?_ _ | refine blk_drew ?_ | refine blk_alloc ?_ _)); refine blk_far ?_ NB12101_12104.out _; (with_reducible repeat (first | refine blk_drewN ?_ _ | refine blk_drew ?_ | refine blk_alloc ?_ _)); exact BK12101.out) hb); have n1_ := Aside0.mk (blk_below (g := gb12104) (o := .cells #[.int .u32 t12102, .int .i64 t12103] 46 (0, 0)) (by (with_reducible repeat (first | refine blk_drewN ?_ _ | refine blk_drew ?_ | refine blk_alloc ?_ _)); refine blk_put (cs := #[.int .u32 t12102, .int .i64 0]) ?_ 1 _ rfl; (with_reducible repeat (first | refine blk_drewN ?_ _ | refine blk_drew ?_ | refine blk_alloc ?_ _)); refine blk_put (cs := #[.int .u32 0, .int .i64 0]) ?_ 0 _ rfl; (with_reducible repeat (first | refine blk_drewN ?_ _ | refine blk_drew ?_ | refine blk_alloc ?_ _)); exact BK12104.out) hb); have n2_ := Aside0.mk (below_step (by repeat (first | (with_reducible first | exact HB.out | apply below_alloc | apply pw_below_drewN | apply below_drew1 | refine below_set ?_ GE12101.out | refine below_set ?_ GE12104.out) | exact HB.out)) hb); clear BK12101; clear BK12104; clear HB; have BK12101 := n0_; have BK12104 := n1_; have HB := n2_; clear n0_ n1_ n2_; (try clear hb); (try clear hb2); (try clear hk); (try clear hi); have hcz18_0 : w17.cell? ⟨gb12104, 0, none⟩ = some (.int .u32 t12102) := (blk_cell BK12104.out 0).trans rfl; have hcz18_1 : w17.cell? ⟨gb12104, 1, none⟩ = some (.int .i64 t12103) := (blk_cell BK12104.out 1).trans rfl; have hfz18_0 := blk_frozen BK12104.out 0; have hfz18_1 := blk_frozen BK12104.out 1) | ((with_reducible refine gate_callee (f := 47) rfl ?_); refine goesL_ (some 23) rfl rfl Tryd.func47 (by kernel_rfl) rfl #[.agg #[.int .u32 t12102, .int .i64 t12103], .int .i64 a1, .int .i64 a2] rfl (by (try simp only [List.map_toArray, List.map_cons, List.map_nil]); first | done | rfl | (simp only [List.length_drop, List.length_take]; rfl)) ?_; (with_reducible refine (cidr_Net_Nth.calls t12102 t12103 a1 a2 t12106 t12107 t12108 _ A6.out).mono ?_); rintro e w19 ⟨rfl, hb⟩; refine ⟨_, rfl, ?_⟩; have n0_ := Aside0.mk (blk_below (g := gb12101) (o := .cells #[.int .u32 a0_0, .int .i64 a0_1] 44 (0, 0)) (by (with_reducible repeat (first | refine blk_drewN ?_ _ | refine blk_drew ?_ | refine blk_alloc ?_ _)); exact BK12101.out) hb); have n1_ := Aside0.mk (blk_below (g := gb12104) (o := .cells #[.int .u32 t12102, .int .i64 t12103] 46 (0, 0)) (by (with_reducible repeat (first | refine blk_drewN ?_ _ | refine blk_drew ?_ | refine blk_alloc ?_ _)); exact BK12104.out) hb); have n2_ := Aside0.mk (below_step (by repeat (first | (with_reducible first | exact HB.out | apply below_alloc | apply pw_below_drewN | apply below_drew1 | refine below_set ?_ GE12101.out | refine below_set ?_ GE12104.out) | exact HB.out)) hb); clear BK12101; clear BK12104; clear HB; have BK12101 := n0_; have BK12104 := n1_; have HB := n2_; clear n0_ n1_ n2_; (try clear hb); (try clear hb2); (try clear hk); (try clear hi)) | ((with_reducible refine gate_dst (N := 9) rfl ?_); refine box_event ?hg (N := 9) ?hd (cs := #[.int .u32 0, .int .i64 0]) (t := 46) ?hr ?_; (case hd => rfl); (case hg => rfl); (case hr => first | (go_simp; done) | (go_simp; rfl)); intro gb12109 hg w20 hbox hb; have n0_ := Aside0.mk (blk_below (g := gb12101) (o := .cells #[.int .u32 a0_0, .int .i64 a0_1] 44 (0, 0)) (by (with_reducible repeat (first | refine blk_drewN ?_ _ | refine blk_drew ?_ | refine blk_alloc ?_ _)); exact BK12101.out) hb); have n1_ := Aside0.mk (blk_below (g := gb12104) (o := .cells #[.int .u32 t12102, .int .i64 t12103] 46 (0, 0)) (by (with_reducible repeat (first | refine blk_drewN ?_ _ | refine blk_drew ?_ | refine blk_alloc ?_ _)); exact BK12104.out) hb); have n2_ := Aside0.mk (below_step (by repeat (first | (with_reducible first | exact HB.out | apply below_alloc | apply pw_below_drewN | apply below_drew1 | refine below_set ?_ GE12101.out | refine below_set ?_ GE12104.out) | exact HB.out)) hb); have n3_ := Aside0.mk (hbox); have n4_ := Aside0.mk ((by rw [hg]; exact (below_size (by repeat (first | (with_reducible first | exact HB.out | apply below_alloc | apply pw_below_drewN | apply below_drew1 | refine below_set ?_ GE12101.out | refine below_set ?_ GE12104.out) | exact HB.out))) : w.heap.size ≤ gb12109)); have n5_ := Aside0.mk ((by rw [hg]; exact (below_size (by repeat (first | (with_reducible first | exact HB.out | apply below_alloc | apply pw_below_drewN | apply below_drew1 | refine below_set ?_ GE12101.out | refine below_set ?_ GE12104.out) | exact HB.out))) : w.heap.size ≤ gb12109)); have n6_ := Aside0.mk ((by rw [hg]; exact Nat.ne_of_lt (blk_lt (g := gb12101) (o := .cells #[.int .u32 a0_0, .int .i64 a0_1] 44 (0, 0)) (by (with_reducible repeat (first | refine blk_drewN ?_ _ | refine blk_drew ?_ | refine blk_alloc ?_ _)); exact BK12101.out)) : gb12101 ≠ gb12109)); have n7_ := Aside0.mk ((by rw [hg]; exact Nat.ne_of_gt (blk_lt (g := gb12101) (o := .cells #[.int .u32 a0_0, .int .i64 a0_1] 44 (0, 0)) (by (with_reducible repeat (first | refine blk_drewN ?_ _ | refine blk_drew ?_ | refine blk_alloc ?_ _)); exact BK12101.out)) : gb12109 ≠ gb12101)); have n8_ := Aside0.mk ((by rw [hg]; exact Nat.ne_of_lt (blk_lt (g := gb12104) (o := .cells #[.int .u32 t12102, .int .i64 t12103] 46 (0, 0)) (by (with_reducible repeat (first | refine blk_drewN ?_ _ | refine blk_drew ?_ | refine blk_alloc ?_ _)); exact BK12104.out)) : gb12104 ≠ gb12109)); have n9_ := Aside0.mk ((by rw [hg]; exact Nat.ne_of_gt (blk_lt (g := gb12104) (o := .cells #[.int .u32 t12102, .int .i64 t12103] 46 (0, 0)) (by (with_reducible repeat (first | refine blk_drewN ?_ _ | refine blk_drew ?_ | refine blk_alloc ?_ _)); exact BK12104.out)) : gb12109 ≠ gb12104)); clear BK12101; clear BK12104; clear HB; have BK12101 := n0_; have BK12104 := n1_; have HB := n2_; have BK12109 := n3_; have GW12109 := n4_; have GE12109 := n5_; have NB12101_12109 := n6_; have NB12109_12101 := n7_; have NB12104_12109 := n8_; have NB12109_12104 := n9_; clear n0_ n1_ n2_ n3_ n4_ n5_ n6_ n7_ n8_ n9_; clear hb hbox hg; have hnb21 := NB12109_12101.out; have hnc21 := NB12101_12109.out; have hnb22 := NB12109_12104.out; have hnc22 := NB12104_12109.out; have hcz23_0 : w20.cell? ⟨gb12109, 0, none⟩ = some (.int .u32 0) := (blk_cell BK12109.out 0).trans rfl; have hcz23_1 : w20.cell? ⟨gb12109, 1, none⟩ = some (.int .i64 0) := (blk_cell BK12109.out 1).trans rfl; have hfz23_0 := blk_frozen BK12109.out 0; have hfz23_1 := blk_frozen BK12109.out 1; have hcz24_0 : w20.cell? ⟨gb12104, 0, none⟩ = some (.int .u32 t12102) := (blk_cell BK12104.out 0).trans rfl; have hcz24_1 : w20.cell? ⟨gb12104, 1, none⟩ = some (.int .i64 t12103) := (blk_cell BK12104.out 1).trans rfl; have hfz24_0 := blk_frozen BK12104.out 0; have hfz24_1 := blk_frozen BK12104.out 1) | ((with_reducible refine gate_callee (f := 48) rfl ?_); refine goesL_ (some 28) rfl rfl Tryd.func48 (by kernel_rfl) rfl #[.agg #[.int .u32 t12102, .int .i64 t12103], .int .i64 a1] rfl (by (try simp only [List.map_toArray, List.map_cons, List.map_nil]); first | done | rfl | (simp only [List.length_drop, List.length_take]; rfl)) ?_; (with_reducible refine (cidr_Net_Count.calls t12102 t12103 a1 t12110 _ A7.out).mono ?_); rintro e w25 ⟨rfl, hb⟩; refine ⟨_, rfl, ?_⟩; have n0_ := Aside0.mk (blk_below (g := gb12101) (o := .cells #[.int .u32 a0_0, .int .i64 a0_1] 44 (0, 0)) (by (with_reducible repeat (first | refine blk_drewN ?_ _ | refine blk_drew ?_ | refine blk_alloc ?_ _)); refine blk_far ?_ NB12101_12109.out _; (with_reducible repeat (first | refine blk_drewN ?_ _ | refine blk_drew ?_ | refine blk_alloc ?_ _)); refine blk_far ?_ NB12101_12109.out _; (with_reducible repeat (first | refine blk_drewN ?_ _ | refine blk_drew ?_ | refine blk_alloc ?_ _)); exact BK12101.out) hb); have n1_ := Aside0.mk (blk_below (g := gb12104) (o := .cells #[.int .u32 t12102, .int .i64 t12103] 46 (0, 0)) (by (with_reducible repeat (first | refine blk_drewN ?_ _ | refine blk_drew ?_ | refine blk_alloc ?_ _)); refine blk_far ?_ NB12104_12109.out _; (with_reducible repeat (first | refine blk_drewN ?_ _ | refine blk_drew ?_ | refine blk_alloc ?_ _)); refine blk_far ?_ NB12104_12109.out _; (with_reducible repeat (first | refine blk_drewN ?_ _ | refine blk_drew ?_ | refine blk_alloc ?_ _)); exact BK12104.out) hb); have n2_ := Aside0.mk (blk_below (g := gb12109) (o := .cells #[.int .u32 t12106, .int .i64 t12107] 46 (0, 0)) (by (with_reducible repeat (first | refine blk_drewN ?_ _ | refine blk_drew ?_ | refine blk_alloc ?_ _)); refine blk_put (cs := #[.int .u32 t12106, .int .i64 0]) ?_ 1 _ rfl; (with_reducible repeat (first | refine blk_drewN ?_ _ | refine blk_drew ?_ | refine blk_alloc ?_ _)); refine blk_put (cs := #[.int .u32 0, .int .i64 0]) ?_ 0 _ rfl; (with_reducible repeat (first | refine blk_drewN ?_ _ | refine blk_drew ?_ | refine blk_alloc ?_ _)); exact BK12109.out) hb); have n3_ := Aside0.mk (below_step (by repeat (first | (with_reducible first | exact HB.out | apply below_alloc | apply pw_below_drewN | apply below_drew1 | refine below_set ?_ GE12101.out | refine below_set ?_ GE12104.out | refine below_set ?_ GE12109.out) | exact HB.out)) hb); clear BK12101; clear BK12104; clear BK12109; clear HB; have BK12101 := n0_; have BK12104 := n1_; have BK12109 := n2_; have HB := n3_; clear n0_ n1_ n2_ n3_; (try clear hb); (try clear hb2); (try clear hk); (try clear hi)))
    (try simp only [Act.put, List.setIfInBounds_toArray, List.set_cons_zero, List.set_cons_succ])
    go_cut [37] (fun v37 wc => ∃ (kq : Nat) (x37_8 : Bool), v37 = .bool x37_8 ∧ Aside0 (virgatelaw02_CidrSplit.j0 kq a1 a2 t12105 t12108 x37_8 a0_0 a0_1 t12102 t12103 t12106 t12107 = some r) ∧ Aside0 (kq ≤ k) ∧ Aside0 (wc.heap[gb12101]? = some (.cells #[.int .u32 a0_0, .int .i64 a0_1] 44 (0, 0))) ∧ Aside0 (wc.heap[gb12104]? = some (.cells #[.int .u32 t12102, .int .i64 t12103] 46 (0, 0))) ∧ Aside0 (wc.heap[gb12109]? = some (.cells #[.int .u32 t12106, .int .i64 t12107] 46 (0, 0))) ∧ Aside0 (Below w.heap.size w wc))
    case first =>
      have H := HC9.out
      clear HC9
      by_cases c26 : a2 < 0
      · rw [if_pos c26] at H
        have c26b0 : decide (a2 < 0) = true := decide_eq_true c26
        clear c26
        (first | rw [c26b0] | (simp only [i64_w, i32_w]; rw [c26b0]) | skip)
        have H' := Aside0.mk H
        clear H
        go_wp2
        go_meet
        case rel => exact ⟨_, (true), (by first | rfl | (simp; done) | (simp [*]; done)), H', ⟨by first | omega | exact Nat.le_refl _⟩, ⟨by (with_reducible repeat (first | refine blk_drewN ?_ _ | refine blk_drew ?_ | refine blk_alloc ?_ _)); exact BK12101.out⟩, ⟨by (with_reducible repeat (first | refine blk_drewN ?_ _ | refine blk_drew ?_ | refine blk_alloc ?_ _)); exact BK12104.out⟩, ⟨by (with_reducible repeat (first | refine blk_drewN ?_ _ | refine blk_drew ?_ | refine blk_alloc ?_ _)); exact BK12109.out⟩, ⟨by repeat (first | (with_reducible first | exact HB.out | apply below_alloc | apply pw_below_drewN | apply below_drew1 | refine below_set ?_ GE12101.out | refine below_set ?_ GE12104.out | refine below_set ?_ GE12109.out) | exact HB.out)⟩⟩
      · rw [if_neg c26] at H
        have c26b0 : decide (a2 < 0) = false := decide_eq_false c26
        clear c26
        (first | rw [c26b0] | (simp only [i64_w, i32_w]; rw [c26b0]) | skip)
        have H' := Aside0.mk H
        clear H
        go_wp2
        go_meet
        case rel => exact ⟨_, (decide (a2 ≥ t12105)), (by first | rfl | (simp; done) | (simp [*]; done)), H', ⟨by first | omega | exact Nat.le_refl _⟩, ⟨by (with_reducible repeat (first | refine blk_drewN ?_ _ | refine blk_drew ?_ | refine blk_alloc ?_ _)); exact BK12101.out⟩, ⟨by (with_reducible repeat (first | refine blk_drewN ?_ _ | refine blk_drew ?_ | refine blk_alloc ?_ _)); exact BK12104.out⟩, ⟨by (with_reducible repeat (first | refine blk_drewN ?_ _ | refine blk_drew ?_ | refine blk_alloc ?_ _)); exact BK12109.out⟩, ⟨by repeat (first | (with_reducible first | exact HB.out | apply below_alloc | apply pw_below_drewN | apply below_drew1 | refine below_set ?_ GE12101.out | refine below_set ?_ GE12104.out | refine below_set ?_ GE12109.out) | exact HB.out)⟩⟩
    case rest =>
      clear HC9
      try clear c1
      try clear c2
      try clear p2
      try clear c3
      try clear c4
      try clear c8
      try clear c8b0
      try clear c8b1
      try clear c12
      try clear c14
      try clear c21
      try clear c22
      try clear c26
      try clear c26b0
      try clear hcz11_0
      try clear hcz11_1
      try clear hcz15_0
      try clear hcz15_1
      try clear hcz16_0
      try clear hcz16_1
      try clear hcz18_0
      try clear hcz18_1
      try clear hcz23_0
      try clear hcz23_1
      try clear hcz24_0
      try clear hcz24_1
      try clear hfz11_0
      try clear hfz11_1
      try clear hfz15_0
      try clear hfz15_1
      try clear hfz16_0
      try clear hfz16_1
      try clear hfz18_0
      try clear hfz18_1
      try clear hfz23_0
      try clear hfz23_1
      try clear hfz24_0
      try clear hfz24_1
      obtain ⟨kq, x37_8, rfl, HA, HJ8, BK12101, BK12104, BK12109, HB⟩ := hcut
      cases kq with
      | zero => exact absurd HA.out (by simp [virgatelaw02_CidrSplit.j0])
      | succ kj8 =>
        have H := HA.out
        clear HA
        simp only [virgatelaw02_CidrSplit.j0] at H
        by_cases c27 : x37_8 = true
        · subst c27
          have H1 : (if t12108 = 1 then (if (t12106 == 0 && (t12107 == 0)) = true then ((virgatelaw02_awake.f kj8).bind fun t12111 => (some t12111)) else (some false)) else (some false)) = some r := by rw [if_pos rfl] at H; exact H
          clear H
          have H := H1
          clear H1
          by_cases c28 : t12108 = 1
          · rw [if_pos c28] at H
            have c28b0 : (t12108 == 1) = true := beq_iff_eq.mpr c28
            have c28b1 : (t12108 != 1) = false := bne_eq_false_iff_eq.mpr c28
            clear c28
            by_cases c29 : (t12106 == 0 && (t12107 == 0)) = true
            · rw [if_pos c29] at H
              have c29b0 : (t12106 == 0 && (t12107 == 0)) = true := c29
              (try (have c29b1 : decide (t12106 = 0 && (t12107 == 0)) = true := by simpa using c29))
              (try (have c29b2 : (t12106 == 0 && (t12107 == 0)) = true := by simpa using c29))
              clear c29
              replace H := Option.bind_eq_some_iff.mp H
              obtain ⟨t12111, A300, H⟩ := H
              replace H : (some t12111) = some r := H
              have A30 := Aside0.mk A300
              clear A300
              obtain rfl := Option.some.inj H
              have hnb31 := NB12109_12101.out
              have hnc31 := NB12101_12109.out
              have hnb32 := NB12109_12104.out
              have hnc32 := NB12104_12109.out
              have hcz33_0 : wc.cell? ⟨gb12109, 0, none⟩ = some (.int .u32 t12106) := (blk_cell BK12109.out 0).trans rfl
              have hcz33_1 : wc.cell? ⟨gb12109, 1, none⟩ = some (.int .i64 t12107) := (blk_cell BK12109.out 1).trans rfl
              have hfz33_0 := blk_frozen BK12109.out 0
              have hfz33_1 := blk_frozen BK12109.out 1
              go_wp2_with (first | (go_at_call 38; (with_reducible refine (virgatelaw02_awake.calls kj8  t12111 _ A30.out).mono ?_); rintro e w34 ⟨rfl, hb⟩; have n0_ := Aside0.mk (blk_below (g := gb12101) (o := .cells #[.int .u32 a0_0, .int .i64 a0_1] 44 (0, 0)) (by (with_reducible repeat (first | refine blk_drewN ?_ _ | refine blk_drew ?_ | refine blk_alloc ?_ _)); exact BK12101.out) hb); have n1_ := Aside0.mk (blk_below (g := gb12104) (o := .cells #[.int .u32 t12102, .int .i64 t12103] 46 (0, 0)) (by (with_reducible repeat (first | refine blk_drewN ?_ _ | refine blk_drew ?_ | refine blk_alloc ?_ _)); exact BK12104.out) hb); have n2_ := Aside0.mk (blk_below (g := gb12109) (o := .cells #[.int .u32 t12106, .int .i64 t12107] 46 (0, 0)) (by (with_reducible repeat (first | refine blk_drewN ?_ _ | refine blk_drew ?_ | refine blk_alloc ?_ _)); exact BK12109.out) hb); have n3_ := Aside0.mk (below_step (by repeat (first | (with_reducible first | exact HB.out | apply below_alloc | apply pw_below_drewN | apply below_drew1 | refine below_set ?_ GE12101.out | refine below_set ?_ GE12104.out | refine below_set ?_ GE12109.out) | exact HB.out)) hb); clear BK12101; clear BK12104; clear BK12109; clear HB; have BK12101 := n0_; have BK12104 := n1_; have BK12109 := n2_; have HB := n3_; clear n0_ n1_ n2_ n3_; (try clear hb); (try clear hb2); (try clear hk); (try clear hi)))
              go_ret
              exact ⟨by first | rfl | (simp [errW_none, errW_some] <;> rfl) | (simp [*, errW_none, errW_some] <;> rfl), by repeat (first | (with_reducible first | exact HB.out | apply below_alloc | apply pw_below_drewN | apply below_drew1 | refine below_set ?_ GE12101.out | refine below_set ?_ GE12104.out | refine below_set ?_ GE12109.out) | exact HB.out)⟩
            · rw [if_neg c29] at H
              have c29b0 : (t12106 == 0 && (t12107 == 0)) = false := by simpa using c29
              (try (have c29b1 : decide (t12106 = 0 && (t12107 == 0)) = false := by simpa using c29))
              (try (have c29b2 : (t12106 == 0 && (t12107 == 0)) = false := by simpa using c29))
              (try (have c29b3 : ¬ (t12106 = 0 && (t12107 == 0)) := by simpa using c29))
              clear c29
              obtain rfl := Option.some.inj H
              have hnb35 := NB12109_12101.out
              have hnc35 := NB12101_12109.out
              have hnb36 := NB12109_12104.out
              have hnc36 := NB12104_12109.out
              have hcz37_0 : wc.cell? ⟨gb12109, 0, none⟩ = some (.int .u32 t12106) := (blk_cell BK12109.out 0).trans rfl
              have hcz37_1 : wc.cell? ⟨gb12109, 1, none⟩ = some (.int .i64 t12107) := (blk_cell BK12109.out 1).trans rfl
              have hfz37_0 := blk_frozen BK12109.out 0
              have hfz37_1 := blk_frozen BK12109.out 1
              go_wp2
              go_ret
              exact ⟨by first | rfl | (simp [errW_none, errW_some] <;> rfl) | (simp [*, errW_none, errW_some] <;> rfl), by repeat (first | (with_reducible first | exact HB.out | apply below_alloc | apply pw_below_drewN | apply below_drew1 | refine below_set ?_ GE12101.out | refine below_set ?_ GE12104.out | refine below_set ?_ GE12109.out) | exact HB.out)⟩
          · rw [if_neg c28] at H
            have c28b0 : (t12108 == 1) = false := beq_eq_false_iff_ne.mpr c28
            have c28b1 : (t12108 != 1) = true := bne_iff_ne.mpr c28
            obtain rfl := Option.some.inj H
            go_wp2
            go_ret
            exact ⟨by first | rfl | (simp [errW_none, errW_some] <;> rfl) | (simp [*, errW_none, errW_some] <;> rfl), by repeat (first | (with_reducible first | exact HB.out | apply below_alloc | apply pw_below_drewN | apply below_drew1 | refine below_set ?_ GE12101.out | refine below_set ?_ GE12104.out | refine below_set ?_ GE12109.out) | exact HB.out)⟩
        · replace c27 := Bool.eq_false_iff.mpr c27
          subst c27
          have H1 : (if 0 ≤ (IntKind.u64.wrap (wrap64 (32 - a1))) then (if t12108 = 0 then (if t12107 = a1 then (if (wrap64 (t12106)) = (wrap64 ((wrap64 (a0_0)) + (wrap64 (a2 * (shl .i64 1 (IntKind.u64.wrap (wrap64 (32 - a1)))))))) then ((cidr_Net_Covers.f t12102 t12103 t12106 t12107).bind fun t12112 => (virgatelaw02_CidrSplit.j1 kj8 a1 a2 t12105 (!t12112) t12102 t12103 t12106 t12107)) else (virgatelaw02_CidrSplit.j1 kj8 a1 a2 t12105 true t12102 t12103 t12106 t12107)) else (virgatelaw02_CidrSplit.j1 kj8 a1 a2 t12105 true t12102 t12103 t12106 t12107)) else (virgatelaw02_CidrSplit.j1 kj8 a1 a2 t12105 true t12102 t12103 t12106 t12107)) else (none)) = some r := by rw [if_neg (show ¬ (false = true) by decide)] at H; exact H
          clear H
          have H := H1
          clear H1
          obtain ⟨ji38, hji38⟩ : ∃ j_ : Int, (IntKind.u64.wrap (wrap64 (32 - a1))) = j_ := ⟨_, rfl⟩
          replace H : (if 0 ≤ (ji38) then (if t12108 = 0 then (if t12107 = a1 then (if (wrap64 (t12106)) = (wrap64 ((wrap64 (a0_0)) + (wrap64 (a2 * (shl .i64 1 (ji38)))))) then ((cidr_Net_Covers.f t12102 t12103 t12106 t12107).bind fun t12112 => (virgatelaw02_CidrSplit.j1 kj8 a1 a2 t12105 (!t12112) t12102 t12103 t12106 t12107)) else (virgatelaw02_CidrSplit.j1 kj8 a1 a2 t12105 true t12102 t12103 t12106 t12107)) else (virgatelaw02_CidrSplit.j1 kj8 a1 a2 t12105 true t12102 t12103 t12106 t12107)) else (virgatelaw02_CidrSplit.j1 kj8 a1 a2 t12105 true t12102 t12103 t12106 t12107)) else (none)) = some r := by first | (rw [hji38] at H; exact H) | (simp only [hji38] at H ⊢; exact H)
          by_cases c39 : 0 ≤ (ji38)
          · rw [if_pos c39] at H
            have c39b0 := eq_true c39
            have c39b1 : decide (0 ≤ (ji38)) = true := decide_eq_true c39
            clear c39
            obtain ⟨ji40, hji40⟩ : ∃ j_ : Int, (shl .i64 1 (ji38)) = j_ := ⟨_, rfl⟩
            replace H : (if t12108 = 0 then (if t12107 = a1 then (if (wrap64 (t12106)) = (wrap64 ((wrap64 (a0_0)) + (wrap64 (a2 * (ji40))))) then ((cidr_Net_Covers.f t12102 t12103 t12106 t12107).bind fun t12112 => (virgatelaw02_CidrSplit.j1 kj8 a1 a2 t12105 (!t12112) t12102 t12103 t12106 t12107)) else (virgatelaw02_CidrSplit.j1 kj8 a1 a2 t12105 true t12102 t12103 t12106 t12107)) else (virgatelaw02_CidrSplit.j1 kj8 a1 a2 t12105 true t12102 t12103 t12106 t12107)) else (virgatelaw02_CidrSplit.j1 kj8 a1 a2 t12105 true t12102 t12103 t12106 t12107)) = some r := by first | (rw [hji40] at H; exact H) | (simp only [hji40] at H ⊢; exact H)
            have hji40_ : (IntKind.i64.wrap (1 * 2 ^ min (ji38).toNat 64)) = ji40 := hji40
            have hji40z : (ji38) ≤ 64 → (IntKind.i64.wrap (1 * 2 ^ (ji38).toNat)) = ji40 := shl_small hji40
            have hji40u : (IntKind.i64.wrap (2 ^ min (ji38).toNat 64)) = ji40 := by have h_ := hji40_; rw [Int.one_mul] at h_; exact h_
            have hji40v : (ji38) ≤ 64 → (IntKind.i64.wrap (2 ^ (ji38).toNat)) = ji40 := fun hle_ => by have h_ := hji40z hle_; rw [Int.one_mul] at h_; exact h_
            have hji40y : (wrap64 (1 * 2 ^ min (ji38).toNat 64)) = ji40 := (i64_w _).symm.trans hji40_
            have hji40x : (ji38) ≤ 64 → (wrap64 (1 * 2 ^ (ji38).toNat)) = ji40 := fun h_ => (i64_w _).symm.trans (hji40z h_)
            have HC41 := Aside0.mk H
            clear H
            go_upto_region 9 with (fail)
            go_cut [78] (fun v78 wc => ∃ (kq : Nat) (x78_40 : Bool), v78 = .bool x78_40 ∧ Aside0 (virgatelaw02_CidrSplit.j1 kq a1 a2 t12105 x78_40 t12102 t12103 t12106 t12107 = some r) ∧ Aside0 (kq ≤ kj8) ∧ Aside0 (wc.heap[gb12101]? = some (.cells #[.int .u32 a0_0, .int .i64 a0_1] 44 (0, 0))) ∧ Aside0 (wc.heap[gb12104]? = some (.cells #[.int .u32 t12102, .int .i64 t12103] 46 (0, 0))) ∧ Aside0 (wc.heap[gb12109]? = some (.cells #[.int .u32 t12106, .int .i64 t12107] 46 (0, 0))) ∧ Aside0 (Below w.heap.size w wc))
            case first =>
              have H := HC41.out
              clear HC41
              by_cases c42 : t12108 = 0
              · rw [if_pos c42] at H
                have c42b0 : (t12108 == 0) = true := beq_iff_eq.mpr c42
                have c42b1 : (t12108 != 0) = false := bne_eq_false_iff_eq.mpr c42
                clear c42
                (first | rw [c42b0] | (simp only [i64_w, i32_w]; rw [c42b0]) | skip)
                by_cases c43 : t12107 = a1
                · rw [if_pos c43] at H
                  have c43b0 : (t12107 == a1) = true := beq_iff_eq.mpr c43
                  have c43b1 : (t12107 != a1) = false := bne_eq_false_iff_eq.mpr c43
                  clear c43
                  by_cases c44 : (wrap64 (t12106)) = (wrap64 ((wrap64 (a0_0)) + (wrap64 (a2 * (ji40)))))
                  · rw [if_pos c44] at H
                    have c44b0 : ((wrap64 (t12106)) == (wrap64 ((wrap64 (a0_0)) + (wrap64 (a2 * (ji40)))))) = true := beq_iff_eq.mpr c44
                    have c44b1 : ((wrap64 (t12106)) != (wrap64 ((wrap64 (a0_0)) + (wrap64 (a2 * (ji40)))))) = false := bne_eq_false_iff_eq.mpr c44
                    clear c44
                    replace H := Option.bind_eq_some_iff.mp H
                    obtain ⟨t12112, A450, H⟩ := H
                    replace H : (virgatelaw02_CidrSplit.j1 kj8 a1 a2 t12105 (!t12112) t12102 t12103 t12106 t12107) = some r := H
                    have A45 := Aside0.mk A450
                    clear A450
                    have H' := Aside0.mk H
                    clear H
                    have hnb46 := NB12109_12101.out
                    have hnc46 := NB12101_12109.out
                    have hnb47 := NB12109_12104.out
                    have hnc47 := NB12104_12109.out
                    have hcz48_0 : wc.cell? ⟨gb12109, 0, none⟩ = some (.int .u32 t12106) := (blk_cell BK12109.out 0).trans rfl
                    have hcz48_1 : wc.cell? ⟨gb12109, 1, none⟩ = some (.int .i64 t12107) := (blk_cell BK12109.out 1).trans rfl
                    have hfz48_0 := blk_frozen BK12109.out 0
                    have hfz48_1 := blk_frozen BK12109.out 1
                    have hnb49 := NB12101_12104.out
                    have hnc49 := NB12104_12101.out
                    have hcz50_0 : wc.cell? ⟨gb12101, 0, none⟩ = some (.int .u32 a0_0) := (blk_cell BK12101.out 0).trans rfl
                    have hcz50_1 : wc.cell? ⟨gb12101, 1, none⟩ = some (.int .i64 a0_1) := (blk_cell BK12101.out 1).trans rfl
                    have hfz50_0 := blk_frozen BK12101.out 0
                    have hfz50_1 := blk_frozen BK12101.out 1
                    have hcz51_0 : wc.cell? ⟨gb12104, 0, none⟩ = some (.int .u32 t12102) := (blk_cell BK12104.out 0).trans rfl
                    have hcz51_1 : wc.cell? ⟨gb12104, 1, none⟩ = some (.int .i64 t12103) := (blk_cell BK12104.out 1).trans rfl
                    have hfz51_0 := blk_frozen BK12104.out 0
                    have hfz51_1 := blk_frozen BK12104.out 1
                    go_wp2_with (first | (go_at_call 40; (with_reducible refine (cidr_Net_Covers.calls t12102 t12103 t12106 t12107 t12112 _ A45.out).mono ?_); rintro e w52 ⟨rfl, hb⟩; have n0_ := Aside0.mk (blk_below (g := gb12101) (o := .cells #[.int .u32 a0_0, .int .i64 a0_1] 44 (0, 0)) (by (with_reducible repeat (first | refine blk_drewN ?_ _ | refine blk_drew ?_ | refine blk_alloc ?_ _)); exact BK12101.out) hb); have n1_ := Aside0.mk (blk_below (g := gb12104) (o := .cells #[.int .u32 t12102, .int .i64 t12103] 46 (0, 0)) (by (with_reducible repeat (first | refine blk_drewN ?_ _ | refine blk_drew ?_ | refine blk_alloc ?_ _)); exact BK12104.out) hb); have n2_ := Aside0.mk (blk_below (g := gb12109) (o := .cells #[.int .u32 t12106, .int .i64 t12107] 46 (0, 0)) (by (with_reducible repeat (first | refine blk_drewN ?_ _ | refine blk_drew ?_ | refine blk_alloc ?_ _)); exact BK12109.out) hb); have n3_ := Aside0.mk (below_step (by repeat (first | (with_reducible first | exact HB.out | apply below_alloc | apply pw_below_drewN | apply below_drew1 | refine below_set ?_ GE12101.out | refine below_set ?_ GE12104.out | refine below_set ?_ GE12109.out) | exact HB.out)) hb); clear BK12101; clear BK12104; clear BK12109; clear HB; have BK12101 := n0_; have BK12104 := n1_; have BK12109 := n2_; have HB := n3_; clear n0_ n1_ n2_ n3_; (try clear hb); (try clear hb2); (try clear hk); (try clear hi)))
                    go_meet
                    case rel => exact ⟨_, (!t12112), (by first | rfl | (simp; done) | (simp [*]; done)), H', ⟨by have := HJ8.out; first | omega | exact Nat.le_refl _⟩, ⟨by (with_reducible repeat (first | refine blk_drewN ?_ _ | refine blk_drew ?_ | refine blk_alloc ?_ _)); exact BK12101.out⟩, ⟨by (with_reducible repeat (first | refine blk_drewN ?_ _ | refine blk_drew ?_ | refine blk_alloc ?_ _)); exact BK12104.out⟩, ⟨by (with_reducible repeat (first | refine blk_drewN ?_ _ | refine blk_drew ?_ | refine blk_alloc ?_ _)); exact BK12109.out⟩, ⟨by repeat (first | (with_reducible first | exact HB.out | apply below_alloc | apply pw_below_drewN | apply below_drew1 | refine below_set ?_ GE12101.out | refine below_set ?_ GE12104.out | refine below_set ?_ GE12109.out) | exact HB.out)⟩⟩
                  · rw [if_neg c44] at H
                    have c44b0 : ((wrap64 (t12106)) == (wrap64 ((wrap64 (a0_0)) + (wrap64 (a2 * (ji40)))))) = false := beq_eq_false_iff_ne.mpr c44
                    have c44b1 : ((wrap64 (t12106)) != (wrap64 ((wrap64 (a0_0)) + (wrap64 (a2 * (ji40)))))) = true := bne_iff_ne.mpr c44
                    have H' := Aside0.mk H
                    clear H
                    have hnb53 := NB12109_12101.out
                    have hnc53 := NB12101_12109.out
                    have hnb54 := NB12109_12104.out
                    have hnc54 := NB12104_12109.out
                    have hcz55_0 : wc.cell? ⟨gb12109, 0, none⟩ = some (.int .u32 t12106) := (blk_cell BK12109.out 0).trans rfl
                    have hcz55_1 : wc.cell? ⟨gb12109, 1, none⟩ = some (.int .i64 t12107) := (blk_cell BK12109.out 1).trans rfl
                    have hfz55_0 := blk_frozen BK12109.out 0
                    have hfz55_1 := blk_frozen BK12109.out 1
                    have hnb56 := NB12101_12104.out
                    have hnc56 := NB12104_12101.out
                    have hcz57_0 : wc.cell? ⟨gb12101, 0, none⟩ = some (.int .u32 a0_0) := (blk_cell BK12101.out 0).trans rfl
                    have hcz57_1 : wc.cell? ⟨gb12101, 1, none⟩ = some (.int .i64 a0_1) := (blk_cell BK12101.out 1).trans rfl
                    have hfz57_0 := blk_frozen BK12101.out 0
                    have hfz57_1 := blk_frozen BK12101.out 1
                    go_wp2
                    go_meet
                    case rel => exact ⟨_, (true), (by first | rfl | (simp; done) | (simp [*]; done)), H', ⟨by have := HJ8.out; first | omega | exact Nat.le_refl _⟩, ⟨by (with_reducible repeat (first | refine blk_drewN ?_ _ | refine blk_drew ?_ | refine blk_alloc ?_ _)); exact BK12101.out⟩, ⟨by (with_reducible repeat (first | refine blk_drewN ?_ _ | refine blk_drew ?_ | refine blk_alloc ?_ _)); exact BK12104.out⟩, ⟨by (with_reducible repeat (first | refine blk_drewN ?_ _ | refine blk_drew ?_ | refine blk_alloc ?_ _)); exact BK12109.out⟩, ⟨by repeat (first | (with_reducible first | exact HB.out | apply below_alloc | apply pw_below_drewN | apply below_drew1 | refine below_set ?_ GE12101.out | refine below_set ?_ GE12104.out | refine below_set ?_ GE12109.out) | exact HB.out)⟩⟩
                · rw [if_neg c43] at H
                  have c43b0 : (t12107 == a1) = false := beq_eq_false_iff_ne.mpr c43
                  have c43b1 : (t12107 != a1) = true := bne_iff_ne.mpr c43
                  have H' := Aside0.mk H
                  clear H
                  have hnb58 := NB12109_12101.out
                  have hnc58 := NB12101_12109.out
                  have hnb59 := NB12109_12104.out
                  have hnc59 := NB12104_12109.out
                  have hcz60_0 : wc.cell? ⟨gb12109, 0, none⟩ = some (.int .u32 t12106) := (blk_cell BK12109.out 0).trans rfl
                  have hcz60_1 : wc.cell? ⟨gb12109, 1, none⟩ = some (.int .i64 t12107) := (blk_cell BK12109.out 1).trans rfl
                  have hfz60_0 := blk_frozen BK12109.out 0
                  have hfz60_1 := blk_frozen BK12109.out 1
                  go_wp2
                  go_meet
                  case rel => exact ⟨_, (true), (by first | rfl | (simp; done) | (simp [*]; done)), H', ⟨by have := HJ8.out; first | omega | exact Nat.le_refl _⟩, ⟨by (with_reducible repeat (first | refine blk_drewN ?_ _ | refine blk_drew ?_ | refine blk_alloc ?_ _)); exact BK12101.out⟩, ⟨by (with_reducible repeat (first | refine blk_drewN ?_ _ | refine blk_drew ?_ | refine blk_alloc ?_ _)); exact BK12104.out⟩, ⟨by (with_reducible repeat (first | refine blk_drewN ?_ _ | refine blk_drew ?_ | refine blk_alloc ?_ _)); exact BK12109.out⟩, ⟨by repeat (first | (with_reducible first | exact HB.out | apply below_alloc | apply pw_below_drewN | apply below_drew1 | refine below_set ?_ GE12101.out | refine below_set ?_ GE12104.out | refine below_set ?_ GE12109.out) | exact HB.out)⟩⟩
              · rw [if_neg c42] at H
                have c42b0 : (t12108 == 0) = false := beq_eq_false_iff_ne.mpr c42
                have c42b1 : (t12108 != 0) = true := bne_iff_ne.mpr c42
                (first | rw [c42b0] | (simp only [i64_w, i32_w]; rw [c42b0]) | skip)
                have H' := Aside0.mk H
                clear H
                go_wp2
                go_meet
                case rel => exact ⟨_, (true), (by first | rfl | (simp; done) | (simp [*]; done)), H', ⟨by have := HJ8.out; first | omega | exact Nat.le_refl _⟩, ⟨by (with_reducible repeat (first | refine blk_drewN ?_ _ | refine blk_drew ?_ | refine blk_alloc ?_ _)); exact BK12101.out⟩, ⟨by (with_reducible repeat (first | refine blk_drewN ?_ _ | refine blk_drew ?_ | refine blk_alloc ?_ _)); exact BK12104.out⟩, ⟨by (with_reducible repeat (first | refine blk_drewN ?_ _ | refine blk_drew ?_ | refine blk_alloc ?_ _)); exact BK12109.out⟩, ⟨by repeat (first | (with_reducible first | exact HB.out | apply below_alloc | apply pw_below_drewN | apply below_drew1 | refine below_set ?_ GE12101.out | refine below_set ?_ GE12104.out | refine below_set ?_ GE12109.out) | exact HB.out)⟩⟩
            case rest =>
              clear HC41
              try clear c1
              try clear c2
              try clear p2
              try clear c3
              try clear c4
              try clear c5
              try clear p6
              try clear c8
              try clear c8b0
              try clear c8b1
              try clear c12
              try clear c14
              try clear c21
              try clear c22
              try clear c26
              try clear c26b0
              try clear c27
              try clear c28
              try clear c28b0
              try clear c28b1
              try clear c29
              try clear c29b0
              try clear c29b1
              try clear c29b2
              try clear c31
              try clear c32
              try clear c33
              try clear c35
              try clear c36
              try clear c39
              try clear c39b0
              try clear c39b1
              try clear c42
              try clear c42b0
              try clear c42b1
              try clear c43
              try clear c43b0
              try clear c43b1
              try clear c44
              try clear c44b0
              try clear c44b1
              try clear c46
              try clear c47
              try clear c48
              try clear c49
              try clear c53
              try clear c54
              try clear c56
              try clear c58
              try clear c59
              try clear hcz11_0
              try clear hcz11_1
              try clear hcz15_0
              try clear hcz15_1
              try clear hcz16_0
              try clear hcz16_1
              try clear hcz18_0
              try clear hcz18_1
              try clear hcz23_0
              try clear hcz23_1
              try clear hcz24_0
              try clear hcz24_1
              try clear hcz33_0
              try clear hcz33_1
              try clear hcz37_0
              try clear hcz37_1
              try clear hcz48_0
              try clear hcz48_1
              try clear hcz50_0
              try clear hcz50_1
              try clear hcz51_0
              try clear hcz51_1
              try clear hcz55_0
              try clear hcz55_1
              try clear hcz57_0
              try clear hcz57_1
              try clear hcz60_0
              try clear hcz60_1
              try clear hfz11_0
              try clear hfz11_1
              try clear hfz15_0
              try clear hfz15_1
              try clear hfz16_0
              try clear hfz16_1
              try clear hfz18_0
              try clear hfz18_1
              try clear hfz23_0
              try clear hfz23_1
              try clear hfz24_0
              try clear hfz24_1
              try clear hfz33_0
              try clear hfz33_1
              try clear hfz37_0
              try clear hfz37_1
              try clear hfz48_0
              try clear hfz48_1
              try clear hfz50_0
              try clear hfz50_1
              try clear hfz51_0
              try clear hfz51_1
              try clear hfz55_0
              try clear hfz55_1
              try clear hfz57_0
              try clear hfz57_1
              try clear hfz60_0
              try clear hfz60_1
              try clear p2
              obtain ⟨kq, x78_40, rfl, HA, HJ40, BK12101, BK12104, BK12109, HB⟩ := hcut
              cases kq with
              | zero => exact absurd HA.out (by simp [virgatelaw02_CidrSplit.j1])
              | succ kj40 =>
                have H := HA.out
                clear HA
                simp only [virgatelaw02_CidrSplit.j1] at H
                by_cases c61 : x78_40 = true
                · subst c61
                  have H1 : (some false) = some r := by rw [if_pos rfl] at H; exact H
                  clear H
                  have H := H1
                  clear H1
                  obtain rfl := Option.some.inj H
                  go_wp2
                  go_ret
                  exact ⟨by first | rfl | (simp [errW_none, errW_some] <;> rfl) | (simp only [← hji38, ← hji40]; first | rfl | (simp [errW_none, errW_some] <;> rfl)) | (simp [*, errW_none, errW_some] <;> rfl), by repeat (first | (with_reducible first | exact HB.out | apply below_alloc | apply pw_below_drewN | apply below_drew1 | refine below_set ?_ GE12101.out | refine below_set ?_ GE12104.out | refine below_set ?_ GE12109.out) | exact HB.out)⟩
                · replace c61 := Bool.eq_false_iff.mpr c61
                  subst c61
                  have H1 : (if a2 = (wrap64 (t12105 - 1)) then ((cidr_Net_Last.f t12106 t12107).bind fun t12113 => ((cidr_Net_Last.f t12102 t12103).bind fun t12114 => (if t12113 = t12114 then ((virgatelaw02_awake.f kj40).bind fun t12115 => (some t12115)) else (some false)))) else ((cidr_Net_Nth.f t12102 t12103 a1 (wrap64 (a2 + 1))).bind fun bt12116 => (if bt12116.2.2 = 0 then ((cidr_Net_Last.f t12106 t12107).bind fun t12120 => (if (wrap64 ((wrap64 (t12120)) + 1)) = (wrap64 (bt12116.1)) then ((virgatelaw02_awake.f kj40).bind fun t12121 => (some t12121)) else (some false))) else (some false)))) = some r := by rw [if_neg (show ¬ (false = true) by decide)] at H; exact H
                  clear H
                  have H := H1
                  clear H1
                  by_cases c62 : a2 = (wrap64 (t12105 - 1))
                  · rw [if_pos c62] at H
                    have c62b0 : (a2 == (wrap64 (t12105 - 1))) = true := beq_iff_eq.mpr c62
                    have c62b1 : (a2 != (wrap64 (t12105 - 1))) = false := bne_eq_false_iff_eq.mpr c62
                    clear c62
                    replace H := Option.bind_eq_some_iff.mp H
                    obtain ⟨t12113, A630, H⟩ := H
                    replace H : ((cidr_Net_Last.f t12102 t12103).bind fun t12114 => (if t12113 = t12114 then ((virgatelaw02_awake.f kj40).bind fun t12115 => (some t12115)) else (some false))) = some r := H
                    have A63 := Aside0.mk A630
                    clear A630
                    replace H := Option.bind_eq_some_iff.mp H
                    obtain ⟨t12114, A640, H⟩ := H
                    replace H : (if t12113 = t12114 then ((virgatelaw02_awake.f kj40).bind fun t12115 => (some t12115)) else (some false)) = some r := H
                    have A64 := Aside0.mk A640
                    clear A640
                    by_cases c65 : t12113 = t12114
                    · rw [if_pos c65] at H
                      have c65b0 : (t12113 == t12114) = true := beq_iff_eq.mpr c65
                      have c65b1 : (t12113 != t12114) = false := bne_eq_false_iff_eq.mpr c65
                      clear c65
                      replace H := Option.bind_eq_some_iff.mp H
                      obtain ⟨t12115, A660, H⟩ := H
                      replace H : (some t12115) = some r := H
                      have A66 := Aside0.mk A660
                      clear A660
                      obtain rfl := Option.some.inj H
                      try go_wp2
                      have n0_ := Aside0.mk (blk_drew BK12101.out)
                      have n1_ := Aside0.mk (blk_drew BK12104.out)
                      have n2_ := Aside0.mk (blk_drew BK12109.out)
                      have n3_ := Aside0.mk (below_drew1 HB.out)
                      clear BK12101
                      clear BK12104
                      clear BK12109
                      clear HB
                      have BK12101 := n0_
                      have BK12104 := n1_
                      have BK12109 := n2_
                      have HB := n3_
                      clear n0_ n1_ n2_ n3_
                      refine start_ (n := 9) (S := fun w' => w'.cell? ⟨gb12109, 0, none⟩ = some (.int .u32 t12106) ∧ w'.cell? ⟨gb12109, 1, none⟩ = some (.int .i64 t12107) ∧ w'.cell? ⟨gb12104, 0, none⟩ = some (.int .u32 t12102) ∧ w'.cell? ⟨gb12104, 1, none⟩ = some (.int .i64 t12103)) (ds := []) #[false, false, false, false, false, false, false, false, false] (by kernel_rfl) rfl rfl ⟨(blk_cell BK12109.out 0).trans rfl, (blk_cell BK12109.out 1).trans rfl, (blk_cell BK12104.out 0).trans rfl, (blk_cell BK12104.out 1).trans rfl⟩ (fun hHeld => ?_); refine with_tabW virgatelaw02_CidrSplit.tab12 virgatelaw02_CidrSplit.bits12 (fun HT_ HW_ => ?_)
                      generalize wc.drew = w67 at BK12101 BK12104 BK12109 HB hHeld ⊢
                      refine take_ (i := 0) (N := some 83) (v := ?_) (a' := ?_) #[true, false, false, false, false, false, false, false, false] rfl rfl (take_ofW HT_.out HW_.out (by kernel_rfl)) (fun _ _ _ h => h) (Or.inl ⟨by rfl, ?_⟩) hHeld ?_ ?_
                      rotate_left
                      · rintro w' ⟨s0, s1, s2, s3⟩
                        go_simp
                        with_reducible rfl
                      rotate_left
                      · simp only [Act.put, List.setIfInBounds_toArray, List.set_cons_zero, List.set_cons_succ, i64_w, i32_w]
                        rfl
                      refine take_ (i := 2) (N := some 85) (v := ?_) (a' := ?_) #[true, false, true, false, false, false, false, false, false] rfl rfl (take_ofW HT_.out HW_.out (by kernel_rfl)) (fun _ _ _ h => h) (Or.inl ⟨by rfl, ?_⟩) hHeld ?_ ?_
                      rotate_left
                      · rintro w' ⟨s0, s1, s2, s3⟩
                        go_simp
                        with_reducible rfl
                      rotate_left
                      · simp only [Act.put, List.setIfInBounds_toArray, List.set_cons_zero, List.set_cons_succ, i64_w, i32_w]
                        rfl
                      refine one_ (i := 1) (N := some 84) #[true, true, true, false, false, false, false, false, false] rfl rfl (one_of HT_.out (by kernel_rfl)) (by decide) (fun K hK => ?_)
                      refine goes_ Tryd.func49 (by kernel_rfl) rfl #[.agg #[.int .u32 t12106, .int .i64 t12107]] (by rfl) rfl rfl (by (try simp only [List.map_toArray, List.map_cons, List.map_nil]); first | done | rfl | (simp only [List.length_drop, List.length_take]; rfl)) ?_
                      with_reducible refine (cidr_Net_Last.calls t12106 t12107 t12113 _ A63.out).mono ?_
                      rintro e w68 ⟨rfl, hb⟩
                      refine ⟨_, rfl, ?_⟩
                      have n0_ := Aside0.mk (blk_below (g := gb12101) (o := .cells #[.int .u32 a0_0, .int .i64 a0_1] 44 (0, 0)) (by (with_reducible repeat (first | refine blk_drewN ?_ _ | refine blk_drew ?_ | refine blk_alloc ?_ _)); exact BK12101.out) hb)
                      have n1_ := Aside0.mk (blk_below (g := gb12104) (o := .cells #[.int .u32 t12102, .int .i64 t12103] 46 (0, 0)) (by (with_reducible repeat (first | refine blk_drewN ?_ _ | refine blk_drew ?_ | refine blk_alloc ?_ _)); exact BK12104.out) hb)
                      have n2_ := Aside0.mk (blk_below (g := gb12109) (o := .cells #[.int .u32 t12106, .int .i64 t12107] 46 (0, 0)) (by (with_reducible repeat (first | refine blk_drewN ?_ _ | refine blk_drew ?_ | refine blk_alloc ?_ _)); exact BK12109.out) hb)
                      have n3_ := Aside0.mk (below_step (by repeat (first | (with_reducible first | exact HB.out | apply below_alloc | apply pw_below_drewN | apply below_drew1 | refine below_set ?_ GE12101.out | refine below_set ?_ GE12104.out | refine below_set ?_ GE12109.out) | exact HB.out)) hb)
                      clear BK12101
                      clear BK12104
                      clear BK12109
                      clear HB
                      have BK12101 := n0_
                      have BK12104 := n1_
                      have BK12109 := n2_
                      have HB := n3_
                      clear n0_ n1_ n2_ n3_
                      (try clear hb)
                      (try clear hb2)
                      (try clear hk)
                      (try clear hi)
                      refine hK.out _ _ ⟨(blk_cell BK12109.out 0).trans rfl, (blk_cell BK12109.out 1).trans rfl, (blk_cell BK12104.out 0).trans rfl, (blk_cell BK12104.out 1).trans rfl⟩ (fun hHeld => ?_)
                      clear hK K
                      refine norm_ (a' := ?_) ?_ ?_
                      rotate_left
                      · show Act.put _ (some 84) _ = _
                        simp only [Act.put, List.setIfInBounds_toArray, List.set_cons_zero, List.set_cons_succ, i64_w, i32_w]
                        rfl
                      refine one_ (i := 3) (N := some 86) #[true, true, true, true, false, false, false, false, false] rfl rfl (one_of HT_.out (by kernel_rfl)) (by decide) (fun K hK => ?_)
                      refine goes_ Tryd.func49 (by kernel_rfl) rfl #[.agg #[.int .u32 t12102, .int .i64 t12103]] (by rfl) rfl rfl (by (try simp only [List.map_toArray, List.map_cons, List.map_nil]); first | done | rfl | (simp only [List.length_drop, List.length_take]; rfl)) ?_
                      with_reducible refine (cidr_Net_Last.calls t12102 t12103 t12114 _ A64.out).mono ?_
                      rintro e w69 ⟨rfl, hb⟩
                      refine ⟨_, rfl, ?_⟩
                      have n0_ := Aside0.mk (blk_below (g := gb12101) (o := .cells #[.int .u32 a0_0, .int .i64 a0_1] 44 (0, 0)) (by (with_reducible repeat (first | refine blk_drewN ?_ _ | refine blk_drew ?_ | refine blk_alloc ?_ _)); exact BK12101.out) hb)
                      have n1_ := Aside0.mk (blk_below (g := gb12104) (o := .cells #[.int .u32 t12102, .int .i64 t12103] 46 (0, 0)) (by (with_reducible repeat (first | refine blk_drewN ?_ _ | refine blk_drew ?_ | refine blk_alloc ?_ _)); exact BK12104.out) hb)
                      have n2_ := Aside0.mk (blk_below (g := gb12109) (o := .cells #[.int .u32 t12106, .int .i64 t12107] 46 (0, 0)) (by (with_reducible repeat (first | refine blk_drewN ?_ _ | refine blk_drew ?_ | refine blk_alloc ?_ _)); exact BK12109.out) hb)
                      have n3_ := Aside0.mk (below_step (by repeat (first | (with_reducible first | exact HB.out | apply below_alloc | apply pw_below_drewN | apply below_drew1 | refine below_set ?_ GE12101.out | refine below_set ?_ GE12104.out | refine below_set ?_ GE12109.out) | exact HB.out)) hb)
                      clear BK12101
                      clear BK12104
                      clear BK12109
                      clear HB
                      have BK12101 := n0_
                      have BK12104 := n1_
                      have BK12109 := n2_
                      have HB := n3_
                      clear n0_ n1_ n2_ n3_
                      (try clear hb)
                      (try clear hb2)
                      (try clear hk)
                      (try clear hi)
                      refine hK.out _ _ ⟨(blk_cell BK12109.out 0).trans rfl, (blk_cell BK12109.out 1).trans rfl, (blk_cell BK12104.out 0).trans rfl, (blk_cell BK12104.out 1).trans rfl⟩ (fun hHeld => ?_)
                      clear hK K
                      refine norm_ (a' := ?_) ?_ ?_
                      rotate_left
                      · show Act.put _ (some 86) _ = _
                        simp only [Act.put, List.setIfInBounds_toArray, List.set_cons_zero, List.set_cons_succ, i64_w, i32_w]
                        rfl
                      refine pure_ (i := 4) (N := some 87) (v := ?_) (a' := ?_) #[true, true, true, true, true, false, false, false, false] rfl rfl (any_of HT_.out (by kernel_rfl)) (fun _ _ _ h => h) (Or.inl ⟨by rfl, ?_⟩) ?_ ?_
                      rotate_left
                      · intro w'
                        go_simp
                        with_reducible rfl
                      rotate_left
                      · simp only [Act.put, List.setIfInBounds_toArray, List.set_cons_zero, List.set_cons_succ, i64_w, i32_w]
                        rfl
                      refine pure_ (i := 5) (N := some 88) (v := ?_) (a' := ?_) #[true, true, true, true, true, true, false, false, false] rfl rfl (any_of HT_.out (by kernel_rfl)) (fun _ _ _ h => h) (Or.inl ⟨by rfl, ?_⟩) ?_ ?_
                      rotate_left
                      · intro w'
                        go_simp
                        with_reducible rfl
                      rotate_left
                      · simp only [Act.put, List.setIfInBounds_toArray, List.set_cons_zero, List.set_cons_succ, i64_w, i32_w]
                        rfl
                      refine one_ (i := 6) (N := some 89) #[true, true, true, true, true, true, true, false, false] rfl rfl (one_of HT_.out (by kernel_rfl)) (by decide) (fun K hK => ?_)
                      refine goes_ Tryd.func38 (by kernel_rfl) rfl #[] (by rfl) rfl rfl (by (try simp only [List.map_toArray, List.map_cons, List.map_nil]); first | done | rfl | (simp only [List.length_drop, List.length_take]; rfl)) ?_
                      with_reducible refine (virgatelaw02_awake.calls kj40  t12115 _ A66.out).mono ?_
                      rintro e w70 ⟨rfl, hb⟩
                      refine ⟨_, rfl, ?_⟩
                      have n0_ := Aside0.mk (blk_below (g := gb12101) (o := .cells #[.int .u32 a0_0, .int .i64 a0_1] 44 (0, 0)) (by (with_reducible repeat (first | refine blk_drewN ?_ _ | refine blk_drew ?_ | refine blk_alloc ?_ _)); exact BK12101.out) hb)
                      have n1_ := Aside0.mk (blk_below (g := gb12104) (o := .cells #[.int .u32 t12102, .int .i64 t12103] 46 (0, 0)) (by (with_reducible repeat (first | refine blk_drewN ?_ _ | refine blk_drew ?_ | refine blk_alloc ?_ _)); exact BK12104.out) hb)
                      have n2_ := Aside0.mk (blk_below (g := gb12109) (o := .cells #[.int .u32 t12106, .int .i64 t12107] 46 (0, 0)) (by (with_reducible repeat (first | refine blk_drewN ?_ _ | refine blk_drew ?_ | refine blk_alloc ?_ _)); exact BK12109.out) hb)
                      have n3_ := Aside0.mk (below_step (by repeat (first | (with_reducible first | exact HB.out | apply below_alloc | apply pw_below_drewN | apply below_drew1 | refine below_set ?_ GE12101.out | refine below_set ?_ GE12104.out | refine below_set ?_ GE12109.out) | exact HB.out)) hb)
                      clear BK12101
                      clear BK12104
                      clear BK12109
                      clear HB
                      have BK12101 := n0_
                      have BK12104 := n1_
                      have BK12109 := n2_
                      have HB := n3_
                      clear n0_ n1_ n2_ n3_
                      (try clear hb)
                      (try clear hb2)
                      (try clear hk)
                      (try clear hi)
                      refine hK.out _ _ ⟨(blk_cell BK12109.out 0).trans rfl, (blk_cell BK12109.out 1).trans rfl, (blk_cell BK12104.out 0).trans rfl, (blk_cell BK12104.out 1).trans rfl⟩ (fun hHeld => ?_)
                      clear hK K
                      refine norm_ (a' := ?_) ?_ ?_
                      rotate_left
                      · show Act.put _ (some 89) _ = _
                        simp only [Act.put, List.setIfInBounds_toArray, List.set_cons_zero, List.set_cons_succ, i64_w, i32_w]
                        rfl
                      refine pure_ (i := 7) (N := some 90) (v := ?_) (a' := ?_) #[true, true, true, true, true, true, true, true, false] rfl rfl (any_of HT_.out (by kernel_rfl)) (fun _ _ _ h => h) (Or.inl ⟨by rfl, ?_⟩) ?_ ?_
                      rotate_left
                      · intro w'
                        go_simp
                        with_reducible rfl
                      rotate_left
                      · simp only [Act.put, List.setIfInBounds_toArray, List.set_cons_zero, List.set_cons_succ, i64_w, i32_w]
                        rfl
                      refine pure_ (i := 8) (N := some 6) (v := ?_) (a' := ?_) #[true, true, true, true, true, true, true, true, true] rfl rfl (any_of HT_.out (by kernel_rfl)) (fun _ _ _ h => h) (Or.inl ⟨by rfl, ?_⟩) ?_ ?_
                      rotate_left
                      · intro w'
                        go_simp
                        with_reducible rfl
                      rotate_left
                      · simp only [Act.put, List.setIfInBounds_toArray, List.set_cons_zero, List.set_cons_succ, i64_w, i32_w]
                        rfl
                      refine done_ (done_of HT_.out (by kernel_rfl)) ?_
                      try go_wp2
                      go_ret
                      exact ⟨by first | rfl | (simp [errW_none, errW_some] <;> rfl) | (simp only [← hji38, ← hji40]; first | rfl | (simp [errW_none, errW_some] <;> rfl)) | (simp [*, errW_none, errW_some] <;> rfl), by repeat (first | (with_reducible first | exact HB.out | apply below_alloc | apply pw_below_drewN | apply below_drew1 | refine below_set ?_ GE12101.out | refine below_set ?_ GE12104.out | refine below_set ?_ GE12109.out) | exact HB.out)⟩
                    · rw [if_neg c65] at H
                      have c65b0 : (t12113 == t12114) = false := beq_eq_false_iff_ne.mpr c65
                      have c65b1 : (t12113 != t12114) = true := bne_iff_ne.mpr c65
                      obtain rfl := Option.some.inj H
                      try go_wp2
                      have n0_ := Aside0.mk (blk_drew BK12101.out)
                      have n1_ := Aside0.mk (blk_drew BK12104.out)
                      have n2_ := Aside0.mk (blk_drew BK12109.out)
                      have n3_ := Aside0.mk (below_drew1 HB.out)
                      clear BK12101
                      clear BK12104
                      clear BK12109
                      clear HB
                      have BK12101 := n0_
                      have BK12104 := n1_
                      have BK12109 := n2_
                      have HB := n3_
                      clear n0_ n1_ n2_ n3_
                      refine start_ (n := 9) (S := fun w' => w'.cell? ⟨gb12109, 0, none⟩ = some (.int .u32 t12106) ∧ w'.cell? ⟨gb12109, 1, none⟩ = some (.int .i64 t12107) ∧ w'.cell? ⟨gb12104, 0, none⟩ = some (.int .u32 t12102) ∧ w'.cell? ⟨gb12104, 1, none⟩ = some (.int .i64 t12103)) (ds := []) #[false, false, false, false, false, false, false, false, false] (by kernel_rfl) rfl rfl ⟨(blk_cell BK12109.out 0).trans rfl, (blk_cell BK12109.out 1).trans rfl, (blk_cell BK12104.out 0).trans rfl, (blk_cell BK12104.out 1).trans rfl⟩ (fun hHeld => ?_); refine with_tabW virgatelaw02_CidrSplit.tab12 virgatelaw02_CidrSplit.bits12 (fun HT_ HW_ => ?_)
                      generalize wc.drew = w71 at BK12101 BK12104 BK12109 HB hHeld ⊢
                      refine take_ (i := 0) (N := some 83) (v := ?_) (a' := ?_) #[true, false, false, false, false, false, false, false, false] rfl rfl (take_ofW HT_.out HW_.out (by kernel_rfl)) (fun _ _ _ h => h) (Or.inl ⟨by rfl, ?_⟩) hHeld ?_ ?_
                      rotate_left
                      · rintro w' ⟨s0, s1, s2, s3⟩
                        go_simp
                        with_reducible rfl
                      rotate_left
                      · simp only [Act.put, List.setIfInBounds_toArray, List.set_cons_zero, List.set_cons_succ, i64_w, i32_w]
                        rfl
                      refine take_ (i := 2) (N := some 85) (v := ?_) (a' := ?_) #[true, false, true, false, false, false, false, false, false] rfl rfl (take_ofW HT_.out HW_.out (by kernel_rfl)) (fun _ _ _ h => h) (Or.inl ⟨by rfl, ?_⟩) hHeld ?_ ?_
                      rotate_left
                      · rintro w' ⟨s0, s1, s2, s3⟩
                        go_simp
                        with_reducible rfl
                      rotate_left
                      · simp only [Act.put, List.setIfInBounds_toArray, List.set_cons_zero, List.set_cons_succ, i64_w, i32_w]
                        rfl
                      refine one_ (i := 1) (N := some 84) #[true, true, true, false, false, false, false, false, false] rfl rfl (one_of HT_.out (by kernel_rfl)) (by decide) (fun K hK => ?_)
                      refine goes_ Tryd.func49 (by kernel_rfl) rfl #[.agg #[.int .u32 t12106, .int .i64 t12107]] (by rfl) rfl rfl (by (try simp only [List.map_toArray, List.map_cons, List.map_nil]); first | done | rfl | (simp only [List.length_drop, List.length_take]; rfl)) ?_
                      with_reducible refine (cidr_Net_Last.calls t12106 t12107 t12113 _ A63.out).mono ?_
                      rintro e w72 ⟨rfl, hb⟩
                      refine ⟨_, rfl, ?_⟩
                      have n0_ := Aside0.mk (blk_below (g := gb12101) (o := .cells #[.int .u32 a0_0, .int .i64 a0_1] 44 (0, 0)) (by (with_reducible repeat (first | refine blk_drewN ?_ _ | refine blk_drew ?_ | refine blk_alloc ?_ _)); exact BK12101.out) hb)
                      have n1_ := Aside0.mk (blk_below (g := gb12104) (o := .cells #[.int .u32 t12102, .int .i64 t12103] 46 (0, 0)) (by (with_reducible repeat (first | refine blk_drewN ?_ _ | refine blk_drew ?_ | refine blk_alloc ?_ _)); exact BK12104.out) hb)
                      have n2_ := Aside0.mk (blk_below (g := gb12109) (o := .cells #[.int .u32 t12106, .int .i64 t12107] 46 (0, 0)) (by (with_reducible repeat (first | refine blk_drewN ?_ _ | refine blk_drew ?_ | refine blk_alloc ?_ _)); exact BK12109.out) hb)
                      have n3_ := Aside0.mk (below_step (by repeat (first | (with_reducible first | exact HB.out | apply below_alloc | apply pw_below_drewN | apply below_drew1 | refine below_set ?_ GE12101.out | refine below_set ?_ GE12104.out | refine below_set ?_ GE12109.out) | exact HB.out)) hb)
                      clear BK12101
                      clear BK12104
                      clear BK12109
                      clear HB
                      have BK12101 := n0_
                      have BK12104 := n1_
                      have BK12109 := n2_
                      have HB := n3_
                      clear n0_ n1_ n2_ n3_
                      (try clear hb)
                      (try clear hb2)
                      (try clear hk)
                      (try clear hi)
                      refine hK.out _ _ ⟨(blk_cell BK12109.out 0).trans rfl, (blk_cell BK12109.out 1).trans rfl, (blk_cell BK12104.out 0).trans rfl, (blk_cell BK12104.out 1).trans rfl⟩ (fun hHeld => ?_)
                      clear hK K
                      refine norm_ (a' := ?_) ?_ ?_
                      rotate_left
                      · show Act.put _ (some 84) _ = _
                        simp only [Act.put, List.setIfInBounds_toArray, List.set_cons_zero, List.set_cons_succ, i64_w, i32_w]
                        rfl
                      refine one_ (i := 3) (N := some 86) #[true, true, true, true, false, false, false, false, false] rfl rfl (one_of HT_.out (by kernel_rfl)) (by decide) (fun K hK => ?_)
                      refine goes_ Tryd.func49 (by kernel_rfl) rfl #[.agg #[.int .u32 t12102, .int .i64 t12103]] (by rfl) rfl rfl (by (try simp only [List.map_toArray, List.map_cons, List.map_nil]); first | done | rfl | (simp only [List.length_drop, List.length_take]; rfl)) ?_
                      with_reducible refine (cidr_Net_Last.calls t12102 t12103 t12114 _ A64.out).mono ?_
                      rintro e w73 ⟨rfl, hb⟩
                      refine ⟨_, rfl, ?_⟩
                      have n0_ := Aside0.mk (blk_below (g := gb12101) (o := .cells #[.int .u32 a0_0, .int .i64 a0_1] 44 (0, 0)) (by (with_reducible repeat (first | refine blk_drewN ?_ _ | refine blk_drew ?_ | refine blk_alloc ?_ _)); exact BK12101.out) hb)
                      have n1_ := Aside0.mk (blk_below (g := gb12104) (o := .cells #[.int .u32 t12102, .int .i64 t12103] 46 (0, 0)) (by (with_reducible repeat (first | refine blk_drewN ?_ _ | refine blk_drew ?_ | refine blk_alloc ?_ _)); exact BK12104.out) hb)
                      have n2_ := Aside0.mk (blk_below (g := gb12109) (o := .cells #[.int .u32 t12106, .int .i64 t12107] 46 (0, 0)) (by (with_reducible repeat (first | refine blk_drewN ?_ _ | refine blk_drew ?_ | refine blk_alloc ?_ _)); exact BK12109.out) hb)
                      have n3_ := Aside0.mk (below_step (by repeat (first | (with_reducible first | exact HB.out | apply below_alloc | apply pw_below_drewN | apply below_drew1 | refine below_set ?_ GE12101.out | refine below_set ?_ GE12104.out | refine below_set ?_ GE12109.out) | exact HB.out)) hb)
                      clear BK12101
                      clear BK12104
                      clear BK12109
                      clear HB
                      have BK12101 := n0_
                      have BK12104 := n1_
                      have BK12109 := n2_
                      have HB := n3_
                      clear n0_ n1_ n2_ n3_
                      (try clear hb)
                      (try clear hb2)
                      (try clear hk)
                      (try clear hi)
                      refine hK.out _ _ ⟨(blk_cell BK12109.out 0).trans rfl, (blk_cell BK12109.out 1).trans rfl, (blk_cell BK12104.out 0).trans rfl, (blk_cell BK12104.out 1).trans rfl⟩ (fun hHeld => ?_)
                      clear hK K
                      refine norm_ (a' := ?_) ?_ ?_
                      rotate_left
                      · show Act.put _ (some 86) _ = _
                        simp only [Act.put, List.setIfInBounds_toArray, List.set_cons_zero, List.set_cons_succ, i64_w, i32_w]
                        rfl
                      refine pure_ (i := 4) (N := some 87) (v := ?_) (a' := ?_) #[true, true, true, true, true, false, false, false, false] rfl rfl (any_of HT_.out (by kernel_rfl)) (fun _ _ _ h => h) (Or.inl ⟨by rfl, ?_⟩) ?_ ?_
                      rotate_left
                      · intro w'
                        go_simp
                        with_reducible rfl
                      rotate_left
                      · simp only [Act.put, List.setIfInBounds_toArray, List.set_cons_zero, List.set_cons_succ, i64_w, i32_w]
                        rfl
                      refine pure_ (i := 5) (N := some 88) (v := ?_) (a' := ?_) #[true, true, true, true, true, true, false, false, false] rfl rfl (any_of HT_.out (by kernel_rfl)) (fun _ _ _ h => h) (Or.inl ⟨by rfl, ?_⟩) ?_ ?_
                      rotate_left
                      · intro w'
                        go_simp
                        with_reducible rfl
                      rotate_left
                      · simp only [Act.put, List.setIfInBounds_toArray, List.set_cons_zero, List.set_cons_succ, i64_w, i32_w]
                        rfl
                      refine pure_ (i := 6) (N := some 89) (v := undef) (a' := ?_) #[true, true, true, true, true, true, true, false, false] rfl rfl (any_of HT_.out (by kernel_rfl)) (fun _ _ _ h => h) (Or.inr ⟨by rfl, rfl⟩) ?_ ?_
                      rotate_left
                      · simp only [Act.put, List.setIfInBounds_toArray, List.set_cons_zero, List.set_cons_succ, i64_w, i32_w]
                        rfl
                      refine pure_ (i := 7) (N := some 90) (v := ?_) (a' := ?_) #[true, true, true, true, true, true, true, true, false] rfl rfl (any_of HT_.out (by kernel_rfl)) (fun _ _ _ h => h) (Or.inl ⟨by rfl, ?_⟩) ?_ ?_
                      rotate_left
                      · intro w'
                        go_simp
                        with_reducible rfl
                      rotate_left
                      · simp only [Act.put, List.setIfInBounds_toArray, List.set_cons_zero, List.set_cons_succ, i64_w, i32_w]
                        rfl
                      refine pure_ (i := 8) (N := some 6) (v := ?_) (a' := ?_) #[true, true, true, true, true, true, true, true, true] rfl rfl (any_of HT_.out (by kernel_rfl)) (fun _ _ _ h => h) (Or.inl ⟨by rfl, ?_⟩) ?_ ?_
                      rotate_left
                      · intro w'
                        go_simp
                        with_reducible rfl
                      rotate_left
                      · simp only [Act.put, List.setIfInBounds_toArray, List.set_cons_zero, List.set_cons_succ, i64_w, i32_w]
                        rfl
                      refine done_ (done_of HT_.out (by kernel_rfl)) ?_
                      try go_wp2
                      go_ret
                      exact ⟨by first | rfl | (simp [errW_none, errW_some] <;> rfl) | (simp only [← hji38, ← hji40]; first | rfl | (simp [errW_none, errW_some] <;> rfl)) | (simp [*, errW_none, errW_some] <;> rfl), by repeat (first | (with_reducible first | exact HB.out | apply below_alloc | apply pw_below_drewN | apply below_drew1 | refine below_set ?_ GE12101.out | refine below_set ?_ GE12104.out | refine below_set ?_ GE12109.out) | exact HB.out)⟩
                  · rw [if_neg c62] at H
                    have c62b0 : (a2 == (wrap64 (t12105 - 1))) = false := beq_eq_false_iff_ne.mpr c62
                    have c62b1 : (a2 != (wrap64 (t12105 - 1))) = true := bne_iff_ne.mpr c62
                    replace H := Option.bind_eq_some_iff.mp H
                    obtain ⟨⟨t12116, t12117, t12118⟩, A740, H⟩ := H
                    replace H : (if t12118 = 0 then ((cidr_Net_Last.f t12106 t12107).bind fun t12120 => (if (wrap64 ((wrap64 (t12120)) + 1)) = (wrap64 (t12116)) then ((virgatelaw02_awake.f kj40).bind fun t12121 => (some t12121)) else (some false))) else (some false)) = some r := H
                    have A74 := Aside0.mk A740
                    clear A740
                    by_cases c75 : t12118 = 0
                    · rw [if_pos c75] at H
                      have c75b0 : (t12118 == 0) = true := beq_iff_eq.mpr c75
                      have c75b1 : (t12118 != 0) = false := bne_eq_false_iff_eq.mpr c75
                      clear c75
                      replace H := Option.bind_eq_some_iff.mp H
                      obtain ⟨t12120, A760, H⟩ := H
                      replace H : (if (wrap64 ((wrap64 (t12120)) + 1)) = (wrap64 (t12116)) then ((virgatelaw02_awake.f kj40).bind fun t12121 => (some t12121)) else (some false)) = some r := H
                      have A76 := Aside0.mk A760
                      clear A760
                      by_cases c77 : (wrap64 ((wrap64 (t12120)) + 1)) = (wrap64 (t12116))
                      · rw [if_pos c77] at H
                        have c77b0 : ((wrap64 ((wrap64 (t12120)) + 1)) == (wrap64 (t12116))) = true := beq_iff_eq.mpr c77
                        have c77b1 : ((wrap64 ((wrap64 (t12120)) + 1)) != (wrap64 (t12116))) = false := bne_eq_false_iff_eq.mpr c77
                        clear c77
                        replace H := Option.bind_eq_some_iff.mp H
                        obtain ⟨t12121, A780, H⟩ := H
                        replace H : (some t12121) = some r := H
                        have A78 := Aside0.mk A780
                        clear A780
                        obtain rfl := Option.some.inj H
                        have hnb79 := NB12104_12101.out
                        have hnc79 := NB12101_12104.out
                        have hnb80 := NB12104_12109.out
                        have hnc80 := NB12109_12104.out
                        have hcz81_0 : wc.cell? ⟨gb12104, 0, none⟩ = some (.int .u32 t12102) := (blk_cell BK12104.out 0).trans rfl
                        have hcz81_1 : wc.cell? ⟨gb12104, 1, none⟩ = some (.int .i64 t12103) := (blk_cell BK12104.out 1).trans rfl
                        have hfz81_0 := blk_frozen BK12104.out 0
                        have hfz81_1 := blk_frozen BK12104.out 1
                        try go_wp2_with (first | ((with_reducible refine gate_callee (f := 47) rfl ?_); refine goesL_ (some 96) rfl rfl Tryd.func47 (by kernel_rfl) rfl #[.agg #[.int .u32 t12102, .int .i64 t12103], .int .i64 a1, .int .i64 (wrap64 (a2 + 1))] rfl (by (try simp only [List.map_toArray, List.map_cons, List.map_nil]); first | done | rfl | (simp only [List.length_drop, List.length_take]; rfl)) ?_; (with_reducible refine (cidr_Net_Nth.calls t12102 t12103 a1 (wrap64 (a2 + 1)) t12116 t12117 t12118 _ A74.out).mono ?_); rintro e w82 ⟨rfl, hb⟩; refine ⟨_, rfl, ?_⟩; have n0_ := Aside0.mk (blk_below (g := gb12101) (o := .cells #[.int .u32 a0_0, .int .i64 a0_1] 44 (0, 0)) (by (with_reducible repeat (first | refine blk_drewN ?_ _ | refine blk_drew ?_ | refine blk_alloc ?_ _)); exact BK12101.out) hb); have n1_ := Aside0.mk (blk_below (g := gb12104) (o := .cells #[.int .u32 t12102, .int .i64 t12103] 46 (0, 0)) (by (with_reducible repeat (first | refine blk_drewN ?_ _ | refine blk_drew ?_ | refine blk_alloc ?_ _)); exact BK12104.out) hb); have n2_ := Aside0.mk (blk_below (g := gb12109) (o := .cells #[.int .u32 t12106, .int .i64 t12107] 46 (0, 0)) (by (with_reducible repeat (first | refine blk_drewN ?_ _ | refine blk_drew ?_ | refine blk_alloc ?_ _)); exact BK12109.out) hb); have n3_ := Aside0.mk (below_step (by repeat (first | (with_reducible first | exact HB.out | apply below_alloc | apply pw_below_drewN | apply below_drew1 | refine below_set ?_ GE12101.out | refine below_set ?_ GE12104.out | refine below_set ?_ GE12109.out) | exact HB.out)) hb); clear BK12101; clear BK12104; clear BK12109; clear HB; have BK12101 := n0_; have BK12104 := n1_; have BK12109 := n2_; have HB := n3_; clear n0_ n1_ n2_ n3_; (try clear hb); (try clear hb2); (try clear hk); (try clear hi)) | ((with_reducible refine gate_dst (N := 12) rfl ?_); refine box_event ?hg (N := 12) ?hd (cs := #[.int .u32 0, .int .i64 0]) (t := 46) ?hr ?_; (case hd => rfl); (case hg => rfl); (case hr => first | (go_simp; done) | (go_simp; rfl)); intro gb12119 hg w83 hbox hb; have n0_ := Aside0.mk (blk_below (g := gb12101) (o := .cells #[.int .u32 a0_0, .int .i64 a0_1] 44 (0, 0)) (by (with_reducible repeat (first | refine blk_drewN ?_ _ | refine blk_drew ?_ | refine blk_alloc ?_ _)); exact BK12101.out) hb); have n1_ := Aside0.mk (blk_below (g := gb12104) (o := .cells #[.int .u32 t12102, .int .i64 t12103] 46 (0, 0)) (by (with_reducible repeat (first | refine blk_drewN ?_ _ | refine blk_drew ?_ | refine blk_alloc ?_ _)); exact BK12104.out) hb); have n2_ := Aside0.mk (blk_below (g := gb12109) (o := .cells #[.int .u32 t12106, .int .i64 t12107] 46 (0, 0)) (by (with_reducible repeat (first | refine blk_drewN ?_ _ | refine blk_drew ?_ | refine blk_alloc ?_ _)); exact BK12109.out) hb); have n3_ := Aside0.mk (below_step (by repeat (first | (with_reducible first | exact HB.out | apply below_alloc | apply pw_below_drewN | apply below_drew1 | refine below_set ?_ GE12101.out | refine below_set ?_ GE12104.out | refine below_set ?_ GE12109.out) | exact HB.out)) hb); have n4_ := Aside0.mk (hbox); have n5_ := Aside0.mk ((by rw [hg]; exact (below_size (by repeat (first | (with_reducible first | exact HB.out | apply below_alloc | apply pw_below_drewN | apply below_drew1 | refine below_set ?_ GE12101.out | refine below_set ?_ GE12104.out | refine below_set ?_ GE12109.out) | exact HB.out))) : w.heap.size ≤ gb12119)); have n6_ := Aside0.mk ((by rw [hg]; exact (below_size (by repeat (first | (with_reducible first | exact HB.out | apply below_alloc | apply pw_below_drewN | apply below_drew1 | refine below_set ?_ GE12101.out | refine below_set ?_ GE12104.out | refine below_set ?_ GE12109.out) | exact HB.out))) : w.heap.size ≤ gb12119)); have n7_ := Aside0.mk ((by rw [hg]; exact Nat.ne_of_lt (blk_lt (g := gb12101) (o := .cells #[.int .u32 a0_0, .int .i64 a0_1] 44 (0, 0)) (by (with_reducible repeat (first | refine blk_drewN ?_ _ | refine blk_drew ?_ | refine blk_alloc ?_ _)); exact BK12101.out)) : gb12101 ≠ gb12119)); have n8_ := Aside0.mk ((by rw [hg]; exact Nat.ne_of_gt (blk_lt (g := gb12101) (o := .cells #[.int .u32 a0_0, .int .i64 a0_1] 44 (0, 0)) (by (with_reducible repeat (first | refine blk_drewN ?_ _ | refine blk_drew ?_ | refine blk_alloc ?_ _)); exact BK12101.out)) : gb12119 ≠ gb12101)); have n9_ := Aside0.mk ((by rw [hg]; exact Nat.ne_of_lt (blk_lt (g := gb12104) (o := .cells #[.int .u32 t12102, .int .i64 t12103] 46 (0, 0)) (by (with_reducible repeat (first | refine blk_drewN ?_ _ | refine blk_drew ?_ | refine blk_alloc ?_ _)); exact BK12104.out)) : gb12104 ≠ gb12119)); have n10_ := Aside0.mk ((by rw [hg]; exact Nat.ne_of_gt (blk_lt (g := gb12104) (o := .cells #[.int .u32 t12102, .int .i64 t12103] 46 (0, 0)) (by (with_reducible repeat (first | refine blk_drewN ?_ _ | refine blk_drew ?_ | refine blk_alloc ?_ _)); exact BK12104.out)) : gb12119 ≠ gb12104)); have n11_ := Aside0.mk ((by rw [hg]; exact Nat.ne_of_lt (blk_lt (g := gb12109) (o := .cells #[.int .u32 t12106, .int .i64 t12107] 46 (0, 0)) (by (with_reducible repeat (first | refine blk_drewN ?_ _ | refine blk_drew ?_ | refine blk_alloc ?_ _)); exact BK12109.out)) : gb12109 ≠ gb12119)); have n12_ := Aside0.mk ((by rw [hg]; exact Nat.ne_of_gt (blk_lt (g := gb12109) (o := .cells #[.int .u32 t12106, .int .i64 t12107] 46 (0, 0)) (by (with_reducible repeat (first | refine blk_drewN ?_ _ | refine blk_drew ?_ | refine blk_alloc ?_ _)); exact BK12109.out)) : gb12119 ≠ gb12109)); clear BK12101; clear BK12104; clear BK12109; clear HB; have BK12101 := n0_; have BK12104 := n1_; have BK12109 := n2_; have HB := n3_; have BK12119 := n4_; have GW12119 := n5_; have GE12119 := n6_; have NB12101_12119 := n7_; have NB12119_12101 := n8_; have NB12104_12119 := n9_; have NB12119_12104 := n10_; have NB12109_12119 := n11_; have NB12119_12109 := n12_; clear n0_ n1_ n2_ n3_ n4_ n5_ n6_ n7_ n8_ n9_ n10_ n11_ n12_; clear hb hbox hg; have hnb84 := NB12119_12101.out; have hnc84 := NB12101_12119.out; have hnb85 := NB12119_12104.out; have hnc85 := NB12104_12119.out; have hnb86 := NB12119_12109.out; have hnc86 := NB12109_12119.out; have hcz87_0 : w83.cell? ⟨gb12119, 0, none⟩ = some (.int .u32 0) := (blk_cell BK12119.out 0).trans rfl; have hcz87_1 : w83.cell? ⟨gb12119, 1, none⟩ = some (.int .i64 0) := (blk_cell BK12119.out 1).trans rfl; have hfz87_0 := blk_frozen BK12119.out 0; have hfz87_1 := blk_frozen BK12119.out 1))
                        have n0_ : Aside0 (((w83.setCell ⟨gb12119, 0, none⟩ (.int .u32 t12116)).setCell ⟨gb12119, 1, none⟩ (.int .i64 t12117)).heap[gb12101]? = some (.cells #[.int .u32 a0_0, .int .i64 a0_1] 44 (0, 0))) := ⟨by (with_reducible repeat (first | refine blk_drewN ?_ _ | refine blk_drew ?_ | refine blk_alloc ?_ _)); refine blk_far ?_ NB12101_12119.out _; (with_reducible repeat (first | refine blk_drewN ?_ _ | refine blk_drew ?_ | refine blk_alloc ?_ _)); refine blk_far ?_ NB12101_12119.out _; (with_reducible repeat (first | refine blk_drewN ?_ _ | refine blk_drew ?_ | refine blk_alloc ?_ _)); exact BK12101.out⟩
                        have n1_ : Aside0 (((w83.setCell ⟨gb12119, 0, none⟩ (.int .u32 t12116)).setCell ⟨gb12119, 1, none⟩ (.int .i64 t12117)).heap[gb12104]? = some (.cells #[.int .u32 t12102, .int .i64 t12103] 46 (0, 0))) := ⟨by (with_reducible repeat (first | refine blk_drewN ?_ _ | refine blk_drew ?_ | refine blk_alloc ?_ _)); refine blk_far ?_ NB12104_12119.out _; (with_reducible repeat (first | refine blk_drewN ?_ _ | refine blk_drew ?_ | refine blk_alloc ?_ _)); refine blk_far ?_ NB12104_12119.out _; (with_reducible repeat (first | refine blk_drewN ?_ _ | refine blk_drew ?_ | refine blk_alloc ?_ _)); exact BK12104.out⟩
                        have n2_ : Aside0 (((w83.setCell ⟨gb12119, 0, none⟩ (.int .u32 t12116)).setCell ⟨gb12119, 1, none⟩ (.int .i64 t12117)).heap[gb12109]? = some (.cells #[.int .u32 t12106, .int .i64 t12107] 46 (0, 0))) := ⟨by (with_reducible repeat (first | refine blk_drewN ?_ _ | refine blk_drew ?_ | refine blk_alloc ?_ _)); refine blk_far ?_ NB12109_12119.out _; (with_reducible repeat (first | refine blk_drewN ?_ _ | refine blk_drew ?_ | refine blk_alloc ?_ _)); refine blk_far ?_ NB12109_12119.out _; (with_reducible repeat (first | refine blk_drewN ?_ _ | refine blk_drew ?_ | refine blk_alloc ?_ _)); exact BK12109.out⟩
                        have n3_ : Aside0 (((w83.setCell ⟨gb12119, 0, none⟩ (.int .u32 t12116)).setCell ⟨gb12119, 1, none⟩ (.int .i64 t12117)).heap[gb12119]? = some (.cells #[.int .u32 t12116, .int .i64 t12117] 46 (0, 0))) := ⟨by (with_reducible repeat (first | refine blk_drewN ?_ _ | refine blk_drew ?_ | refine blk_alloc ?_ _)); refine blk_put (cs := #[.int .u32 t12116, .int .i64 0]) ?_ 1 _ rfl; (with_reducible repeat (first | refine blk_drewN ?_ _ | refine blk_drew ?_ | refine blk_alloc ?_ _)); refine blk_put (cs := #[.int .u32 0, .int .i64 0]) ?_ 0 _ rfl; (with_reducible repeat (first | refine blk_drewN ?_ _ | refine blk_drew ?_ | refine blk_alloc ?_ _)); exact BK12119.out⟩
                        have n4_ : Aside0 (Below w.heap.size w ((w83.setCell ⟨gb12119, 0, none⟩ (.int .u32 t12116)).setCell ⟨gb12119, 1, none⟩ (.int .i64 t12117))) := ⟨by repeat (first | (with_reducible first | exact HB.out | apply below_alloc | apply pw_below_drewN | apply below_drew1 | refine below_set ?_ GE12101.out | refine below_set ?_ GE12104.out | refine below_set ?_ GE12109.out | refine below_set ?_ GE12119.out) | exact HB.out)⟩
                        (try clear BK12101)
                        (try clear BK12104)
                        (try clear BK12109)
                        (try clear BK12119)
                        (try clear HB)
                        generalize ((w83.setCell ⟨gb12119, 0, none⟩ (.int .u32 t12116)).setCell ⟨gb12119, 1, none⟩ (.int .i64 t12117)) = w88 at n0_ n1_ n2_ n3_ n4_ ⊢
                        have BK12101 := n0_
                        have BK12104 := n1_
                        have BK12109 := n2_
                        have BK12119 := n3_
                        have HB := n4_
                        clear n0_ n1_ n2_ n3_ n4_
                        have n0_ := Aside0.mk (blk_drew BK12101.out)
                        have n1_ := Aside0.mk (blk_drew BK12104.out)
                        have n2_ := Aside0.mk (blk_drew BK12109.out)
                        have n3_ := Aside0.mk (blk_drew BK12119.out)
                        have n4_ := Aside0.mk (below_drew1 HB.out)
                        clear BK12101
                        clear BK12104
                        clear BK12109
                        clear BK12119
                        clear HB
                        have BK12101 := n0_
                        have BK12104 := n1_
                        have BK12109 := n2_
                        have BK12119 := n3_
                        have HB := n4_
                        clear n0_ n1_ n2_ n3_ n4_
                        refine start_ (n := 16) (S := fun w' => w'.cell? ⟨gb12109, 0, none⟩ = some (.int .u32 t12106) ∧ w'.cell? ⟨gb12109, 1, none⟩ = some (.int .i64 t12107) ∧ w'.cell? ⟨gb12119, 0, none⟩ = some (.int .u32 t12116) ∧ w'.cell? ⟨gb12119, 1, none⟩ = some (.int .i64 t12117)) (ds := []) #[false, false, false, false, false, false, false, false, false, false, false, false, false, false, false, false] (by kernel_rfl) rfl rfl ⟨(blk_cell BK12109.out 0).trans rfl, (blk_cell BK12109.out 1).trans rfl, (blk_cell BK12119.out 0).trans rfl, (blk_cell BK12119.out 1).trans rfl⟩ (fun hHeld => ?_); refine with_tabW virgatelaw02_CidrSplit.tab14 virgatelaw02_CidrSplit.bits14 (fun HT_ HW_ => ?_)
                        generalize w88.drew = w89 at BK12101 BK12104 BK12109 BK12119 HB hHeld ⊢
                        refine pure_ (i := 0) (N := some 99) (v := ?_) (a' := ?_) #[true, false, false, false, false, false, false, false, false, false, false, false, false, false, false, false] rfl rfl (any_of HT_.out (by kernel_rfl)) (fun _ _ _ h => h) (Or.inl ⟨by rfl, ?_⟩) ?_ ?_
                        rotate_left
                        · intro w'
                          go_simp
                          with_reducible rfl
                        rotate_left
                        · simp only [Act.put, List.setIfInBounds_toArray, List.set_cons_zero, List.set_cons_succ, i64_w, i32_w]
                          rfl
                        refine pure_ (i := 1) (N := some 100) (v := ?_) (a' := ?_) #[true, true, false, false, false, false, false, false, false, false, false, false, false, false, false, false] rfl rfl (any_of HT_.out (by kernel_rfl)) (fun _ _ _ h => h) (Or.inl ⟨by rfl, ?_⟩) ?_ ?_
                        rotate_left
                        · intro w'
                          go_simp
                          with_reducible rfl
                        rotate_left
                        · simp only [Act.put, List.setIfInBounds_toArray, List.set_cons_zero, List.set_cons_succ, i64_w, i32_w]
                          rfl
                        refine pure_ (i := 2) (N := some 101) (v := ?_) (a' := ?_) #[true, true, true, false, false, false, false, false, false, false, false, false, false, false, false, false] rfl rfl (any_of HT_.out (by kernel_rfl)) (fun _ _ _ h => h) (Or.inl ⟨by rfl, ?_⟩) ?_ ?_
                        rotate_left
                        · intro w'
                          go_simp
                          with_reducible rfl
                        rotate_left
                        · simp only [Act.put, List.setIfInBounds_toArray, List.set_cons_zero, List.set_cons_succ, i64_w, i32_w]
                          rfl
                        refine pure_ (i := 7) (N := some 106) (v := ?_) (a' := ?_) #[true, true, true, false, false, false, false, true, false, false, false, false, false, false, false, false] rfl rfl (any_of HT_.out (by kernel_rfl)) (fun _ _ _ h => h) (Or.inl ⟨by rfl, ?_⟩) ?_ ?_
                        rotate_left
                        · intro w'
                          go_simp
                          with_reducible rfl
                        rotate_left
                        · simp only [Act.put, List.setIfInBounds_toArray, List.set_cons_zero, List.set_cons_succ, i64_w, i32_w]
                          rfl
                        refine take_ (i := 3) (N := some 102) (v := ?_) (a' := ?_) #[true, true, true, true, false, false, false, true, false, false, false, false, false, false, false, false] rfl rfl (take_ofW HT_.out HW_.out (by kernel_rfl)) (fun _ _ _ h => h) (Or.inl ⟨by rfl, ?_⟩) hHeld ?_ ?_
                        rotate_left
                        · rintro w' ⟨s0, s1, s2, s3⟩
                          go_simp
                          with_reducible rfl
                        rotate_left
                        · simp only [Act.put, List.setIfInBounds_toArray, List.set_cons_zero, List.set_cons_succ, i64_w, i32_w]
                          rfl
                        refine take_ (i := 8) (N := some 107) (v := ?_) (a' := ?_) #[true, true, true, true, false, false, false, true, true, false, false, false, false, false, false, false] rfl rfl (take_ofW HT_.out HW_.out (by kernel_rfl)) (fun _ _ _ h => h) (Or.inl ⟨by rfl, ?_⟩) hHeld ?_ ?_
                        rotate_left
                        · rintro w' ⟨s0, s1, s2, s3⟩
                          go_simp
                          with_reducible rfl
                        rotate_left
                        · simp only [Act.put, List.setIfInBounds_toArray, List.set_cons_zero, List.set_cons_succ, i64_w, i32_w]
                          rfl
                        refine pure_ (i := 9) (N := some 108) (v := ?_) (a' := ?_) #[true, true, true, true, false, false, false, true, true, true, false, false, false, false, false, false] rfl rfl (any_of HT_.out (by kernel_rfl)) (fun _ _ _ h => h) (Or.inl ⟨by rfl, ?_⟩) ?_ ?_
                        rotate_left
                        · intro w'
                          go_simp
                          with_reducible rfl
                        rotate_left
                        · simp only [Act.put, List.setIfInBounds_toArray, List.set_cons_zero, List.set_cons_succ, i64_w, i32_w]
                          rfl
                        refine one_ (i := 4) (N := some 103) #[true, true, true, true, true, false, false, true, true, true, false, false, false, false, false, false] rfl rfl (one_of HT_.out (by kernel_rfl)) (by decide) (fun K hK => ?_)
                        refine goes_ Tryd.func49 (by kernel_rfl) rfl #[.agg #[.int .u32 t12106, .int .i64 t12107]] (by rfl) rfl rfl (by (try simp only [List.map_toArray, List.map_cons, List.map_nil]); first | done | rfl | (simp only [List.length_drop, List.length_take]; rfl)) ?_
                        with_reducible refine (cidr_Net_Last.calls t12106 t12107 t12120 _ A76.out).mono ?_
                        rintro e w90 ⟨rfl, hb⟩
                        refine ⟨_, rfl, ?_⟩
                        have n0_ := Aside0.mk (blk_below (g := gb12101) (o := .cells #[.int .u32 a0_0, .int .i64 a0_1] 44 (0, 0)) (by (with_reducible repeat (first | refine blk_drewN ?_ _ | refine blk_drew ?_ | refine blk_alloc ?_ _)); exact BK12101.out) hb)
                        have n1_ := Aside0.mk (blk_below (g := gb12104) (o := .cells #[.int .u32 t12102, .int .i64 t12103] 46 (0, 0)) (by (with_reducible repeat (first | refine blk_drewN ?_ _ | refine blk_drew ?_ | refine blk_alloc ?_ _)); exact BK12104.out) hb)
                        have n2_ := Aside0.mk (blk_below (g := gb12109) (o := .cells #[.int .u32 t12106, .int .i64 t12107] 46 (0, 0)) (by (with_reducible repeat (first | refine blk_drewN ?_ _ | refine blk_drew ?_ | refine blk_alloc ?_ _)); exact BK12109.out) hb)
                        have n3_ := Aside0.mk (blk_below (g := gb12119) (o := .cells #[.int .u32 t12116, .int .i64 t12117] 46 (0, 0)) (by (with_reducible repeat (first | refine blk_drewN ?_ _ | refine blk_drew ?_ | refine blk_alloc ?_ _)); exact BK12119.out) hb)
                        have n4_ := Aside0.mk (below_step (by repeat (first | (with_reducible first | exact HB.out | apply below_alloc | apply pw_below_drewN | apply below_drew1 | refine below_set ?_ GE12101.out | refine below_set ?_ GE12104.out | refine below_set ?_ GE12109.out | refine below_set ?_ GE12119.out) | exact HB.out)) hb)
                        clear BK12101
                        clear BK12104
                        clear BK12109
                        clear BK12119
                        clear HB
                        have BK12101 := n0_
                        have BK12104 := n1_
                        have BK12109 := n2_
                        have BK12119 := n3_
                        have HB := n4_
                        clear n0_ n1_ n2_ n3_ n4_
                        (try clear hb)
                        (try clear hb2)
                        (try clear hk)
                        (try clear hi)
                        refine hK.out _ _ ⟨(blk_cell BK12109.out 0).trans rfl, (blk_cell BK12109.out 1).trans rfl, (blk_cell BK12119.out 0).trans rfl, (blk_cell BK12119.out 1).trans rfl⟩ (fun hHeld => ?_)
                        clear hK K
                        refine norm_ (a' := ?_) ?_ ?_
                        rotate_left
                        · show Act.put _ (some 103) _ = _
                          simp only [Act.put, List.setIfInBounds_toArray, List.set_cons_zero, List.set_cons_succ, i64_w, i32_w]
                          rfl
                        refine pure_ (i := 5) (N := some 104) (v := ?_) (a' := ?_) #[true, true, true, true, true, true, false, true, true, true, false, false, false, false, false, false] rfl rfl (any_of HT_.out (by kernel_rfl)) (fun _ _ _ h => h) (Or.inl ⟨by rfl, ?_⟩) ?_ ?_
                        rotate_left
                        · intro w'
                          go_simp
                          with_reducible rfl
                        rotate_left
                        · simp only [Act.put, List.setIfInBounds_toArray, List.set_cons_zero, List.set_cons_succ, i64_w, i32_w]
                          rfl
                        refine pure_ (i := 6) (N := some 105) (v := ?_) (a' := ?_) #[true, true, true, true, true, true, true, true, true, true, false, false, false, false, false, false] rfl rfl (any_of HT_.out (by kernel_rfl)) (fun _ _ _ h => h) (Or.inl ⟨by rfl, ?_⟩) ?_ ?_
                        rotate_left
                        · intro w'
                          go_simp
                          with_reducible rfl
                        rotate_left
                        · simp only [Act.put, List.setIfInBounds_toArray, List.set_cons_zero, List.set_cons_succ, i64_w, i32_w]
                          rfl
                        refine pure_ (i := 10) (N := some 109) (v := ?_) (a' := ?_) #[true, true, true, true, true, true, true, true, true, true, true, false, false, false, false, false] rfl rfl (any_of HT_.out (by kernel_rfl)) (fun _ _ _ h => h) (Or.inl ⟨by rfl, ?_⟩) ?_ ?_
                        rotate_left
                        · intro w'
                          go_simp
                          with_reducible rfl
                        rotate_left
                        · simp only [Act.put, List.setIfInBounds_toArray, List.set_cons_zero, List.set_cons_succ, i64_w, i32_w]
                          rfl
                        refine pure_ (i := 11) (N := some 110) (v := ?_) (a' := ?_) #[true, true, true, true, true, true, true, true, true, true, true, true, false, false, false, false] rfl rfl (any_of HT_.out (by kernel_rfl)) (fun _ _ _ h => h) (Or.inl ⟨by rfl, ?_⟩) ?_ ?_
                        rotate_left
                        · intro w'
                          go_simp
                          with_reducible rfl
                        rotate_left
                        · simp only [Act.put, List.setIfInBounds_toArray, List.set_cons_zero, List.set_cons_succ, i64_w, i32_w]
                          rfl
                        refine pure_ (i := 12) (N := some 111) (v := ?_) (a' := ?_) #[true, true, true, true, true, true, true, true, true, true, true, true, true, false, false, false] rfl rfl (any_of HT_.out (by kernel_rfl)) (fun _ _ _ h => h) (Or.inl ⟨by rfl, ?_⟩) ?_ ?_
                        rotate_left
                        · intro w'
                          go_simp
                          with_reducible rfl
                        rotate_left
                        · simp only [Act.put, List.setIfInBounds_toArray, List.set_cons_zero, List.set_cons_succ, i64_w, i32_w]
                          rfl
                        refine one_ (i := 13) (N := some 112) #[true, true, true, true, true, true, true, true, true, true, true, true, true, true, false, false] rfl rfl (one_of HT_.out (by kernel_rfl)) (by decide) (fun K hK => ?_)
                        refine goes_ Tryd.func38 (by kernel_rfl) rfl #[] (by rfl) rfl rfl (by (try simp only [List.map_toArray, List.map_cons, List.map_nil]); first | done | rfl | (simp only [List.length_drop, List.length_take]; rfl)) ?_
                        with_reducible refine (virgatelaw02_awake.calls kj40  t12121 _ A78.out).mono ?_
                        rintro e w91 ⟨rfl, hb⟩
                        refine ⟨_, rfl, ?_⟩
                        have n0_ := Aside0.mk (blk_below (g := gb12101) (o := .cells #[.int .u32 a0_0, .int .i64 a0_1] 44 (0, 0)) (by (with_reducible repeat (first | refine blk_drewN ?_ _ | refine blk_drew ?_ | refine blk_alloc ?_ _)); exact BK12101.out) hb)
                        have n1_ := Aside0.mk (blk_below (g := gb12104) (o := .cells #[.int .u32 t12102, .int .i64 t12103] 46 (0, 0)) (by (with_reducible repeat (first | refine blk_drewN ?_ _ | refine blk_drew ?_ | refine blk_alloc ?_ _)); exact BK12104.out) hb)
                        have n2_ := Aside0.mk (blk_below (g := gb12109) (o := .cells #[.int .u32 t12106, .int .i64 t12107] 46 (0, 0)) (by (with_reducible repeat (first | refine blk_drewN ?_ _ | refine blk_drew ?_ | refine blk_alloc ?_ _)); exact BK12109.out) hb)
                        have n3_ := Aside0.mk (blk_below (g := gb12119) (o := .cells #[.int .u32 t12116, .int .i64 t12117] 46 (0, 0)) (by (with_reducible repeat (first | refine blk_drewN ?_ _ | refine blk_drew ?_ | refine blk_alloc ?_ _)); exact BK12119.out) hb)
                        have n4_ := Aside0.mk (below_step (by repeat (first | (with_reducible first | exact HB.out | apply below_alloc | apply pw_below_drewN | apply below_drew1 | refine below_set ?_ GE12101.out | refine below_set ?_ GE12104.out | refine below_set ?_ GE12109.out | refine below_set ?_ GE12119.out) | exact HB.out)) hb)
                        clear BK12101
                        clear BK12104
                        clear BK12109
                        clear BK12119
                        clear HB
                        have BK12101 := n0_
                        have BK12104 := n1_
                        have BK12109 := n2_
                        have BK12119 := n3_
                        have HB := n4_
                        clear n0_ n1_ n2_ n3_ n4_
                        (try clear hb)
                        (try clear hb2)
                        (try clear hk)
                        (try clear hi)
                        refine hK.out _ _ ⟨(blk_cell BK12109.out 0).trans rfl, (blk_cell BK12109.out 1).trans rfl, (blk_cell BK12119.out 0).trans rfl, (blk_cell BK12119.out 1).trans rfl⟩ (fun hHeld => ?_)
                        clear hK K
                        refine norm_ (a' := ?_) ?_ ?_
                        rotate_left
                        · show Act.put _ (some 112) _ = _
                          simp only [Act.put, List.setIfInBounds_toArray, List.set_cons_zero, List.set_cons_succ, i64_w, i32_w]
                          rfl
                        refine pure_ (i := 14) (N := some 113) (v := ?_) (a' := ?_) #[true, true, true, true, true, true, true, true, true, true, true, true, true, true, true, false] rfl rfl (any_of HT_.out (by kernel_rfl)) (fun _ _ _ h => h) (Or.inl ⟨by rfl, ?_⟩) ?_ ?_
                        rotate_left
                        · intro w'
                          go_simp
                          with_reducible rfl
                        rotate_left
                        · simp only [Act.put, List.setIfInBounds_toArray, List.set_cons_zero, List.set_cons_succ, i64_w, i32_w]
                          rfl
                        refine pure_ (i := 15) (N := some 6) (v := ?_) (a' := ?_) #[true, true, true, true, true, true, true, true, true, true, true, true, true, true, true, true] rfl rfl (any_of HT_.out (by kernel_rfl)) (fun _ _ _ h => h) (Or.inl ⟨by rfl, ?_⟩) ?_ ?_
                        rotate_left
                        · intro w'
                          go_simp
                          with_reducible rfl
                        rotate_left
                        · simp only [Act.put, List.setIfInBounds_toArray, List.set_cons_zero, List.set_cons_succ, i64_w, i32_w]
                          rfl
                        refine done_ (done_of HT_.out (by kernel_rfl)) ?_
                        try go_wp2
                        go_ret
                        exact ⟨by first | rfl | (simp [errW_none, errW_some] <;> rfl) | (simp only [← hji38, ← hji40]; first | rfl | (simp [errW_none, errW_some] <;> rfl)) | (simp [*, errW_none, errW_some] <;> rfl), by repeat (first | (with_reducible first | exact HB.out | apply below_alloc | apply pw_below_drewN | apply below_drew1 | refine below_set ?_ GE12101.out | refine below_set ?_ GE12104.out | refine below_set ?_ GE12109.out | refine below_set ?_ GE12119.out) | exact HB.out)⟩
                      · rw [if_neg c77] at H
                        have c77b0 : ((wrap64 ((wrap64 (t12120)) + 1)) == (wrap64 (t12116))) = false := beq_eq_false_iff_ne.mpr c77
                        have c77b1 : ((wrap64 ((wrap64 (t12120)) + 1)) != (wrap64 (t12116))) = true := bne_iff_ne.mpr c77
                        obtain rfl := Option.some.inj H
                        have hnb92 := NB12104_12101.out
                        have hnc92 := NB12101_12104.out
                        have hnb93 := NB12104_12109.out
                        have hnc93 := NB12109_12104.out
                        have hcz94_0 : wc.cell? ⟨gb12104, 0, none⟩ = some (.int .u32 t12102) := (blk_cell BK12104.out 0).trans rfl
                        have hcz94_1 : wc.cell? ⟨gb12104, 1, none⟩ = some (.int .i64 t12103) := (blk_cell BK12104.out 1).trans rfl
                        have hfz94_0 := blk_frozen BK12104.out 0
                        have hfz94_1 := blk_frozen BK12104.out 1
                        try go_wp2_with (first | ((with_reducible refine gate_callee (f := 47) rfl ?_); refine goesL_ (some 96) rfl rfl Tryd.func47 (by kernel_rfl) rfl #[.agg #[.int .u32 t12102, .int .i64 t12103], .int .i64 a1, .int .i64 (wrap64 (a2 + 1))] rfl (by (try simp only [List.map_toArray, List.map_cons, List.map_nil]); first | done | rfl | (simp only [List.length_drop, List.length_take]; rfl)) ?_; (with_reducible refine (cidr_Net_Nth.calls t12102 t12103 a1 (wrap64 (a2 + 1)) t12116 t12117 t12118 _ A74.out).mono ?_); rintro e w95 ⟨rfl, hb⟩; refine ⟨_, rfl, ?_⟩; have n0_ := Aside0.mk (blk_below (g := gb12101) (o := .cells #[.int .u32 a0_0, .int .i64 a0_1] 44 (0, 0)) (by (with_reducible repeat (first | refine blk_drewN ?_ _ | refine blk_drew ?_ | refine blk_alloc ?_ _)); exact BK12101.out) hb); have n1_ := Aside0.mk (blk_below (g := gb12104) (o := .cells #[.int .u32 t12102, .int .i64 t12103] 46 (0, 0)) (by (with_reducible repeat (first | refine blk_drewN ?_ _ | refine blk_drew ?_ | refine blk_alloc ?_ _)); exact BK12104.out) hb); have n2_ := Aside0.mk (blk_below (g := gb12109) (o := .cells #[.int .u32 t12106, .int .i64 t12107] 46 (0, 0)) (by (with_reducible repeat (first | refine blk_drewN ?_ _ | refine blk_drew ?_ | refine blk_alloc ?_ _)); exact BK12109.out) hb); have n3_ := Aside0.mk (below_step (by repeat (first | (with_reducible first | exact HB.out | apply below_alloc | apply pw_below_drewN | apply below_drew1 | refine below_set ?_ GE12101.out | refine below_set ?_ GE12104.out | refine below_set ?_ GE12109.out) | exact HB.out)) hb); clear BK12101; clear BK12104; clear BK12109; clear HB; have BK12101 := n0_; have BK12104 := n1_; have BK12109 := n2_; have HB := n3_; clear n0_ n1_ n2_ n3_; (try clear hb); (try clear hb2); (try clear hk); (try clear hi)) | ((with_reducible refine gate_dst (N := 12) rfl ?_); refine box_event ?hg (N := 12) ?hd (cs := #[.int .u32 0, .int .i64 0]) (t := 46) ?hr ?_; (case hd => rfl); (case hg => rfl); (case hr => first | (go_simp; done) | (go_simp; rfl)); intro gb12119 hg w96 hbox hb; have n0_ := Aside0.mk (blk_below (g := gb12101) (o := .cells #[.int .u32 a0_0, .int .i64 a0_1] 44 (0, 0)) (by (with_reducible repeat (first | refine blk_drewN ?_ _ | refine blk_drew ?_ | refine blk_alloc ?_ _)); exact BK12101.out) hb); have n1_ := Aside0.mk (blk_below (g := gb12104) (o := .cells #[.int .u32 t12102, .int .i64 t12103] 46 (0, 0)) (by (with_reducible repeat (first | refine blk_drewN ?_ _ | refine blk_drew ?_ | refine blk_alloc ?_ _)); exact BK12104.out) hb); have n2_ := Aside0.mk (blk_below (g := gb12109) (o := .cells #[.int .u32 t12106, .int .i64 t12107] 46 (0, 0)) (by (with_reducible repeat (first | refine blk_drewN ?_ _ | refine blk_drew ?_ | refine blk_alloc ?_ _)); exact BK12109.out) hb); have n3_ := Aside0.mk (below_step (by repeat (first | (with_reducible first | exact HB.out | apply below_alloc | apply pw_below_drewN | apply below_drew1 | refine below_set ?_ GE12101.out | refine below_set ?_ GE12104.out | refine below_set ?_ GE12109.out) | exact HB.out)) hb); have n4_ := Aside0.mk (hbox); have n5_ := Aside0.mk ((by rw [hg]; exact (below_size (by repeat (first | (with_reducible first | exact HB.out | apply below_alloc | apply pw_below_drewN | apply below_drew1 | refine below_set ?_ GE12101.out | refine below_set ?_ GE12104.out | refine below_set ?_ GE12109.out) | exact HB.out))) : w.heap.size ≤ gb12119)); have n6_ := Aside0.mk ((by rw [hg]; exact (below_size (by repeat (first | (with_reducible first | exact HB.out | apply below_alloc | apply pw_below_drewN | apply below_drew1 | refine below_set ?_ GE12101.out | refine below_set ?_ GE12104.out | refine below_set ?_ GE12109.out) | exact HB.out))) : w.heap.size ≤ gb12119)); have n7_ := Aside0.mk ((by rw [hg]; exact Nat.ne_of_lt (blk_lt (g := gb12101) (o := .cells #[.int .u32 a0_0, .int .i64 a0_1] 44 (0, 0)) (by (with_reducible repeat (first | refine blk_drewN ?_ _ | refine blk_drew ?_ | refine blk_alloc ?_ _)); exact BK12101.out)) : gb12101 ≠ gb12119)); have n8_ := Aside0.mk ((by rw [hg]; exact Nat.ne_of_gt (blk_lt (g := gb12101) (o := .cells #[.int .u32 a0_0, .int .i64 a0_1] 44 (0, 0)) (by (with_reducible repeat (first | refine blk_drewN ?_ _ | refine blk_drew ?_ | refine blk_alloc ?_ _)); exact BK12101.out)) : gb12119 ≠ gb12101)); have n9_ := Aside0.mk ((by rw [hg]; exact Nat.ne_of_lt (blk_lt (g := gb12104) (o := .cells #[.int .u32 t12102, .int .i64 t12103] 46 (0, 0)) (by (with_reducible repeat (first | refine blk_drewN ?_ _ | refine blk_drew ?_ | refine blk_alloc ?_ _)); exact BK12104.out)) : gb12104 ≠ gb12119)); have n10_ := Aside0.mk ((by rw [hg]; exact Nat.ne_of_gt (blk_lt (g := gb12104) (o := .cells #[.int .u32 t12102, .int .i64 t12103] 46 (0, 0)) (by (with_reducible repeat (first | refine blk_drewN ?_ _ | refine blk_drew ?_ | refine blk_alloc ?_ _)); exact BK12104.out)) : gb12119 ≠ gb12104)); have n11_ := Aside0.mk ((by rw [hg]; exact Nat.ne_of_lt (blk_lt (g := gb12109) (o := .cells #[.int .u32 t12106, .int .i64 t12107] 46 (0, 0)) (by (with_reducible repeat (first | refine blk_drewN ?_ _ | refine blk_drew ?_ | refine blk_alloc ?_ _)); exact BK12109.out)) : gb12109 ≠ gb12119)); have n12_ := Aside0.mk ((by rw [hg]; exact Nat.ne_of_gt (blk_lt (g := gb12109) (o := .cells #[.int .u32 t12106, .int .i64 t12107] 46 (0, 0)) (by (with_reducible repeat (first | refine blk_drewN ?_ _ | refine blk_drew ?_ | refine blk_alloc ?_ _)); exact BK12109.out)) : gb12119 ≠ gb12109)); clear BK12101; clear BK12104; clear BK12109; clear HB; have BK12101 := n0_; have BK12104 := n1_; have BK12109 := n2_; have HB := n3_; have BK12119 := n4_; have GW12119 := n5_; have GE12119 := n6_; have NB12101_12119 := n7_; have NB12119_12101 := n8_; have NB12104_12119 := n9_; have NB12119_12104 := n10_; have NB12109_12119 := n11_; have NB12119_12109 := n12_; clear n0_ n1_ n2_ n3_ n4_ n5_ n6_ n7_ n8_ n9_ n10_ n11_ n12_; clear hb hbox hg; have hnb97 := NB12119_12101.out; have hnc97 := NB12101_12119.out; have hnb98 := NB12119_12104.out; have hnc98 := NB12104_12119.out; have hnb99 := NB12119_12109.out; have hnc99 := NB12109_12119.out; have hcz100_0 : w96.cell? ⟨gb12119, 0, none⟩ = some (.int .u32 0) := (blk_cell BK12119.out 0).trans rfl; have hcz100_1 : w96.cell? ⟨gb12119, 1, none⟩ = some (.int .i64 0) := (blk_cell BK12119.out 1).trans rfl; have hfz100_0 := blk_frozen BK12119.out 0; have hfz100_1 := blk_frozen BK12119.out 1))
                        have n0_ : Aside0 (((w96.setCell ⟨gb12119, 0, none⟩ (.int .u32 t12116)).setCell ⟨gb12119, 1, none⟩ (.int .i64 t12117)).heap[gb12101]? = some (.cells #[.int .u32 a0_0, .int .i64 a0_1] 44 (0, 0))) := ⟨by (with_reducible repeat (first | refine blk_drewN ?_ _ | refine blk_drew ?_ | refine blk_alloc ?_ _)); refine blk_far ?_ NB12101_12119.out _; (with_reducible repeat (first | refine blk_drewN ?_ _ | refine blk_drew ?_ | refine blk_alloc ?_ _)); refine blk_far ?_ NB12101_12119.out _; (with_reducible repeat (first | refine blk_drewN ?_ _ | refine blk_drew ?_ | refine blk_alloc ?_ _)); exact BK12101.out⟩
                        have n1_ : Aside0 (((w96.setCell ⟨gb12119, 0, none⟩ (.int .u32 t12116)).setCell ⟨gb12119, 1, none⟩ (.int .i64 t12117)).heap[gb12104]? = some (.cells #[.int .u32 t12102, .int .i64 t12103] 46 (0, 0))) := ⟨by (with_reducible repeat (first | refine blk_drewN ?_ _ | refine blk_drew ?_ | refine blk_alloc ?_ _)); refine blk_far ?_ NB12104_12119.out _; (with_reducible repeat (first | refine blk_drewN ?_ _ | refine blk_drew ?_ | refine blk_alloc ?_ _)); refine blk_far ?_ NB12104_12119.out _; (with_reducible repeat (first | refine blk_drewN ?_ _ | refine blk_drew ?_ | refine blk_alloc ?_ _)); exact BK12104.out⟩
                        have n2_ : Aside0 (((w96.setCell ⟨gb12119, 0, none⟩ (.int .u32 t12116)).setCell ⟨gb12119, 1, none⟩ (.int .i64 t12117)).heap[gb12109]? = some (.cells #[.int .u32 t12106, .int .i64 t12107] 46 (0, 0))) := ⟨by (with_reducible repeat (first | refine blk_drewN ?_ _ | refine blk_drew ?_ | refine blk_alloc ?_ _)); refine blk_far ?_ NB12109_12119.out _; (with_reducible repeat (first | refine blk_drewN ?_ _ | refine blk_drew ?_ | refine blk_alloc ?_ _)); refine blk_far ?_ NB12109_12119.out _; (with_reducible repeat (first | refine blk_drewN ?_ _ | refine blk_drew ?_ | refine blk_alloc ?_ _)); exact BK12109.out⟩
                        have n3_ : Aside0 (((w96.setCell ⟨gb12119, 0, none⟩ (.int .u32 t12116)).setCell ⟨gb12119, 1, none⟩ (.int .i64 t12117)).heap[gb12119]? = some (.cells #[.int .u32 t12116, .int .i64 t12117] 46 (0, 0))) := ⟨by (with_reducible repeat (first | refine blk_drewN ?_ _ | refine blk_drew ?_ | refine blk_alloc ?_ _)); refine blk_put (cs := #[.int .u32 t12116, .int .i64 0]) ?_ 1 _ rfl; (with_reducible repeat (first | refine blk_drewN ?_ _ | refine blk_drew ?_ | refine blk_alloc ?_ _)); refine blk_put (cs := #[.int .u32 0, .int .i64 0]) ?_ 0 _ rfl; (with_reducible repeat (first | refine blk_drewN ?_ _ | refine blk_drew ?_ | refine blk_alloc ?_ _)); exact BK12119.out⟩
                        have n4_ : Aside0 (Below w.heap.size w ((w96.setCell ⟨gb12119, 0, none⟩ (.int .u32 t12116)).setCell ⟨gb12119, 1, none⟩ (.int .i64 t12117))) := ⟨by repeat (first | (with_reducible first | exact HB.out | apply below_alloc | apply pw_below_drewN | apply below_drew1 | refine below_set ?_ GE12101.out | refine below_set ?_ GE12104.out | refine below_set ?_ GE12109.out | refine below_set ?_ GE12119.out) | exact HB.out)⟩
                        (try clear BK12101)
                        (try clear BK12104)
                        (try clear BK12109)
                        (try clear BK12119)
                        (try clear HB)
                        generalize ((w96.setCell ⟨gb12119, 0, none⟩ (.int .u32 t12116)).setCell ⟨gb12119, 1, none⟩ (.int .i64 t12117)) = w101 at n0_ n1_ n2_ n3_ n4_ ⊢
                        have BK12101 := n0_
                        have BK12104 := n1_
                        have BK12109 := n2_
                        have BK12119 := n3_
                        have HB := n4_
                        clear n0_ n1_ n2_ n3_ n4_
                        have n0_ := Aside0.mk (blk_drew BK12101.out)
                        have n1_ := Aside0.mk (blk_drew BK12104.out)
                        have n2_ := Aside0.mk (blk_drew BK12109.out)
                        have n3_ := Aside0.mk (blk_drew BK12119.out)
                        have n4_ := Aside0.mk (below_drew1 HB.out)
                        clear BK12101
                        clear BK12104
                        clear BK12109
                        clear BK12119
                        clear HB
                        have BK12101 := n0_
                        have BK12104 := n1_
                        have BK12109 := n2_
                        have BK12119 := n3_
                        have HB := n4_
                        clear n0_ n1_ n2_ n3_ n4_
                        refine start_ (n := 16) (S := fun w' => w'.cell? ⟨gb12109, 0, none⟩ = some (.int .u32 t12106) ∧ w'.cell? ⟨gb12109, 1, none⟩ = some (.int .i64 t12107) ∧ w'.cell? ⟨gb12119, 0, none⟩ = some (.int .u32 t12116) ∧ w'.cell? ⟨gb12119, 1, none⟩ = some (.int .i64 t12117)) (ds := []) #[false, false, false, false, false, false, false, false, false, false, false, false, false, false, false, false] (by kernel_rfl) rfl rfl ⟨(blk_cell BK12109.out 0).trans rfl, (blk_cell BK12109.out 1).trans rfl, (blk_cell BK12119.out 0).trans rfl, (blk_cell BK12119.out 1).trans rfl⟩ (fun hHeld => ?_); refine with_tabW virgatelaw02_CidrSplit.tab14 virgatelaw02_CidrSplit.bits14 (fun HT_ HW_ => ?_)
                        generalize w101.drew = w102 at BK12101 BK12104 BK12109 BK12119 HB hHeld ⊢
                        refine pure_ (i := 0) (N := some 99) (v := ?_) (a' := ?_) #[true, false, false, false, false, false, false, false, false, false, false, false, false, false, false, false] rfl rfl (any_of HT_.out (by kernel_rfl)) (fun _ _ _ h => h) (Or.inl ⟨by rfl, ?_⟩) ?_ ?_
                        rotate_left
                        · intro w'
                          go_simp
                          with_reducible rfl
                        rotate_left
                        · simp only [Act.put, List.setIfInBounds_toArray, List.set_cons_zero, List.set_cons_succ, i64_w, i32_w]
                          rfl
                        refine pure_ (i := 1) (N := some 100) (v := ?_) (a' := ?_) #[true, true, false, false, false, false, false, false, false, false, false, false, false, false, false, false] rfl rfl (any_of HT_.out (by kernel_rfl)) (fun _ _ _ h => h) (Or.inl ⟨by rfl, ?_⟩) ?_ ?_
                        rotate_left
                        · intro w'
                          go_simp
                          with_reducible rfl
                        rotate_left
                        · simp only [Act.put, List.setIfInBounds_toArray, List.set_cons_zero, List.set_cons_succ, i64_w, i32_w]
                          rfl
                        refine pure_ (i := 2) (N := some 101) (v := ?_) (a' := ?_) #[true, true, true, false, false, false, false, false, false, false, false, false, false, false, false, false] rfl rfl (any_of HT_.out (by kernel_rfl)) (fun _ _ _ h => h) (Or.inl ⟨by rfl, ?_⟩) ?_ ?_
                        rotate_left
                        · intro w'
                          go_simp
                          with_reducible rfl
                        rotate_left
                        · simp only [Act.put, List.setIfInBounds_toArray, List.set_cons_zero, List.set_cons_succ, i64_w, i32_w]
                          rfl
                        refine pure_ (i := 7) (N := some 106) (v := ?_) (a' := ?_) #[true, true, true, false, false, false, false, true, false, false, false, false, false, false, false, false] rfl rfl (any_of HT_.out (by kernel_rfl)) (fun _ _ _ h => h) (Or.inl ⟨by rfl, ?_⟩) ?_ ?_
                        rotate_left
                        · intro w'
                          go_simp
                          with_reducible rfl
                        rotate_left
                        · simp only [Act.put, List.setIfInBounds_toArray, List.set_cons_zero, List.set_cons_succ, i64_w, i32_w]
                          rfl
                        refine take_ (i := 3) (N := some 102) (v := ?_) (a' := ?_) #[true, true, true, true, false, false, false, true, false, false, false, false, false, false, false, false] rfl rfl (take_ofW HT_.out HW_.out (by kernel_rfl)) (fun _ _ _ h => h) (Or.inl ⟨by rfl, ?_⟩) hHeld ?_ ?_
                        rotate_left
                        · rintro w' ⟨s0, s1, s2, s3⟩
                          go_simp
                          with_reducible rfl
                        rotate_left
                        · simp only [Act.put, List.setIfInBounds_toArray, List.set_cons_zero, List.set_cons_succ, i64_w, i32_w]
                          rfl
                        refine take_ (i := 8) (N := some 107) (v := ?_) (a' := ?_) #[true, true, true, true, false, false, false, true, true, false, false, false, false, false, false, false] rfl rfl (take_ofW HT_.out HW_.out (by kernel_rfl)) (fun _ _ _ h => h) (Or.inl ⟨by rfl, ?_⟩) hHeld ?_ ?_
                        rotate_left
                        · rintro w' ⟨s0, s1, s2, s3⟩
                          go_simp
                          with_reducible rfl
                        rotate_left
                        · simp only [Act.put, List.setIfInBounds_toArray, List.set_cons_zero, List.set_cons_succ, i64_w, i32_w]
                          rfl
                        refine pure_ (i := 9) (N := some 108) (v := ?_) (a' := ?_) #[true, true, true, true, false, false, false, true, true, true, false, false, false, false, false, false] rfl rfl (any_of HT_.out (by kernel_rfl)) (fun _ _ _ h => h) (Or.inl ⟨by rfl, ?_⟩) ?_ ?_
                        rotate_left
                        · intro w'
                          go_simp
                          with_reducible rfl
                        rotate_left
                        · simp only [Act.put, List.setIfInBounds_toArray, List.set_cons_zero, List.set_cons_succ, i64_w, i32_w]
                          rfl
                        refine one_ (i := 4) (N := some 103) #[true, true, true, true, true, false, false, true, true, true, false, false, false, false, false, false] rfl rfl (one_of HT_.out (by kernel_rfl)) (by decide) (fun K hK => ?_)
                        refine goes_ Tryd.func49 (by kernel_rfl) rfl #[.agg #[.int .u32 t12106, .int .i64 t12107]] (by rfl) rfl rfl (by (try simp only [List.map_toArray, List.map_cons, List.map_nil]); first | done | rfl | (simp only [List.length_drop, List.length_take]; rfl)) ?_
                        with_reducible refine (cidr_Net_Last.calls t12106 t12107 t12120 _ A76.out).mono ?_
                        rintro e w103 ⟨rfl, hb⟩
                        refine ⟨_, rfl, ?_⟩
                        have n0_ := Aside0.mk (blk_below (g := gb12101) (o := .cells #[.int .u32 a0_0, .int .i64 a0_1] 44 (0, 0)) (by (with_reducible repeat (first | refine blk_drewN ?_ _ | refine blk_drew ?_ | refine blk_alloc ?_ _)); exact BK12101.out) hb)
                        have n1_ := Aside0.mk (blk_below (g := gb12104) (o := .cells #[.int .u32 t12102, .int .i64 t12103] 46 (0, 0)) (by (with_reducible repeat (first | refine blk_drewN ?_ _ | refine blk_drew ?_ | refine blk_alloc ?_ _)); exact BK12104.out) hb)
                        have n2_ := Aside0.mk (blk_below (g := gb12109) (o := .cells #[.int .u32 t12106, .int .i64 t12107] 46 (0, 0)) (by (with_reducible repeat (first | refine blk_drewN ?_ _ | refine blk_drew ?_ | refine blk_alloc ?_ _)); exact BK12109.out) hb)
                        have n3_ := Aside0.mk (blk_below (g := gb12119) (o := .cells #[.int .u32 t12116, .int .i64 t12117] 46 (0, 0)) (by (with_reducible repeat (first | refine blk_drewN ?_ _ | refine blk_drew ?_ | refine blk_alloc ?_ _)); exact BK12119.out) hb)
                        have n4_ := Aside0.mk (below_step (by repeat (first | (with_reducible first | exact HB.out | apply below_alloc | apply pw_below_drewN | apply below_drew1 | refine below_set ?_ GE12101.out | refine below_set ?_ GE12104.out | refine below_set ?_ GE12109.out | refine below_set ?_ GE12119.out) | exact HB.out)) hb)
                        clear BK12101
                        clear BK12104
                        clear BK12109
                        clear BK12119
                        clear HB
                        have BK12101 := n0_
                        have BK12104 := n1_
                        have BK12109 := n2_
                        have BK12119 := n3_
                        have HB := n4_
                        clear n0_ n1_ n2_ n3_ n4_
                        (try clear hb)
                        (try clear hb2)
                        (try clear hk)
                        (try clear hi)
                        refine hK.out _ _ ⟨(blk_cell BK12109.out 0).trans rfl, (blk_cell BK12109.out 1).trans rfl, (blk_cell BK12119.out 0).trans rfl, (blk_cell BK12119.out 1).trans rfl⟩ (fun hHeld => ?_)
                        clear hK K
                        refine norm_ (a' := ?_) ?_ ?_
                        rotate_left
                        · show Act.put _ (some 103) _ = _
                          simp only [Act.put, List.setIfInBounds_toArray, List.set_cons_zero, List.set_cons_succ, i64_w, i32_w]
                          rfl
                        refine pure_ (i := 5) (N := some 104) (v := ?_) (a' := ?_) #[true, true, true, true, true, true, false, true, true, true, false, false, false, false, false, false] rfl rfl (any_of HT_.out (by kernel_rfl)) (fun _ _ _ h => h) (Or.inl ⟨by rfl, ?_⟩) ?_ ?_
                        rotate_left
                        · intro w'
                          go_simp
                          with_reducible rfl
                        rotate_left
                        · simp only [Act.put, List.setIfInBounds_toArray, List.set_cons_zero, List.set_cons_succ, i64_w, i32_w]
                          rfl
                        refine pure_ (i := 6) (N := some 105) (v := ?_) (a' := ?_) #[true, true, true, true, true, true, true, true, true, true, false, false, false, false, false, false] rfl rfl (any_of HT_.out (by kernel_rfl)) (fun _ _ _ h => h) (Or.inl ⟨by rfl, ?_⟩) ?_ ?_
                        rotate_left
                        · intro w'
                          go_simp
                          with_reducible rfl
                        rotate_left
                        · simp only [Act.put, List.setIfInBounds_toArray, List.set_cons_zero, List.set_cons_succ, i64_w, i32_w]
                          rfl
                        refine pure_ (i := 10) (N := some 109) (v := ?_) (a' := ?_) #[true, true, true, true, true, true, true, true, true, true, true, false, false, false, false, false] rfl rfl (any_of HT_.out (by kernel_rfl)) (fun _ _ _ h => h) (Or.inl ⟨by rfl, ?_⟩) ?_ ?_
                        rotate_left
                        · intro w'
                          go_simp
                          with_reducible rfl
                        rotate_left
                        · simp only [Act.put, List.setIfInBounds_toArray, List.set_cons_zero, List.set_cons_succ, i64_w, i32_w]
                          rfl
                        refine pure_ (i := 11) (N := some 110) (v := ?_) (a' := ?_) #[true, true, true, true, true, true, true, true, true, true, true, true, false, false, false, false] rfl rfl (any_of HT_.out (by kernel_rfl)) (fun _ _ _ h => h) (Or.inl ⟨by rfl, ?_⟩) ?_ ?_
                        rotate_left
                        · intro w'
                          go_simp
                          with_reducible rfl
                        rotate_left
                        · simp only [Act.put, List.setIfInBounds_toArray, List.set_cons_zero, List.set_cons_succ, i64_w, i32_w]
                          rfl
                        refine pure_ (i := 12) (N := some 111) (v := ?_) (a' := ?_) #[true, true, true, true, true, true, true, true, true, true, true, true, true, false, false, false] rfl rfl (any_of HT_.out (by kernel_rfl)) (fun _ _ _ h => h) (Or.inl ⟨by rfl, ?_⟩) ?_ ?_
                        rotate_left
                        · intro w'
                          go_simp
                          with_reducible rfl
                        rotate_left
                        · simp only [Act.put, List.setIfInBounds_toArray, List.set_cons_zero, List.set_cons_succ, i64_w, i32_w]
                          rfl
                        refine pure_ (i := 13) (N := some 112) (v := undef) (a' := ?_) #[true, true, true, true, true, true, true, true, true, true, true, true, true, true, false, false] rfl rfl (any_of HT_.out (by kernel_rfl)) (fun _ _ _ h => h) (Or.inr ⟨by rfl, rfl⟩) ?_ ?_
                        rotate_left
                        · simp only [Act.put, List.setIfInBounds_toArray, List.set_cons_zero, List.set_cons_succ, i64_w, i32_w]
                          rfl
                        refine pure_ (i := 14) (N := some 113) (v := ?_) (a' := ?_) #[true, true, true, true, true, true, true, true, true, true, true, true, true, true, true, false] rfl rfl (any_of HT_.out (by kernel_rfl)) (fun _ _ _ h => h) (Or.inl ⟨by rfl, ?_⟩) ?_ ?_
                        rotate_left
                        · intro w'
                          go_simp
                          with_reducible rfl
                        rotate_left
                        · simp only [Act.put, List.setIfInBounds_toArray, List.set_cons_zero, List.set_cons_succ, i64_w, i32_w]
                          rfl
                        refine pure_ (i := 15) (N := some 6) (v := ?_) (a' := ?_) #[true, true, true, true, true, true, true, true, true, true, true, true, true, true, true, true] rfl rfl (any_of HT_.out (by kernel_rfl)) (fun _ _ _ h => h) (Or.inl ⟨by rfl, ?_⟩) ?_ ?_
                        rotate_left
                        · intro w'
                          go_simp
                          with_reducible rfl
                        rotate_left
                        · simp only [Act.put, List.setIfInBounds_toArray, List.set_cons_zero, List.set_cons_succ, i64_w, i32_w]
                          rfl
                        refine done_ (done_of HT_.out (by kernel_rfl)) ?_
                        try go_wp2
                        go_ret
                        exact ⟨by first | rfl | (simp [errW_none, errW_some] <;> rfl) | (simp only [← hji38, ← hji40]; first | rfl | (simp [errW_none, errW_some] <;> rfl)) | (simp [*, errW_none, errW_some] <;> rfl), by repeat (first | (with_reducible first | exact HB.out | apply below_alloc | apply pw_below_drewN | apply below_drew1 | refine below_set ?_ GE12101.out | refine below_set ?_ GE12104.out | refine below_set ?_ GE12109.out | refine below_set ?_ GE12119.out) | exact HB.out)⟩
                    · rw [if_neg c75] at H
                      have c75b0 : (t12118 == 0) = false := beq_eq_false_iff_ne.mpr c75
                      have c75b1 : (t12118 != 0) = true := bne_iff_ne.mpr c75
                      obtain rfl := Option.some.inj H
                      have hnb104 := NB12104_12101.out
                      have hnc104 := NB12101_12104.out
                      have hnb105 := NB12104_12109.out
                      have hnc105 := NB12109_12104.out
                      have hcz106_0 : wc.cell? ⟨gb12104, 0, none⟩ = some (.int .u32 t12102) := (blk_cell BK12104.out 0).trans rfl
                      have hcz106_1 : wc.cell? ⟨gb12104, 1, none⟩ = some (.int .i64 t12103) := (blk_cell BK12104.out 1).trans rfl
                      have hfz106_0 := blk_frozen BK12104.out 0
                      have hfz106_1 := blk_frozen BK12104.out 1
                      try go_wp2_with (first | ((with_reducible refine gate_callee (f := 47) rfl ?_); refine goesL_ (some 96) rfl rfl Tryd.func47 (by kernel_rfl) rfl #[.agg #[.int .u32 t12102, .int .i64 t12103], .int .i64 a1, .int .i64 (wrap64 (a2 + 1))] rfl (by (try simp only [List.map_toArray, List.map_cons, List.map_nil]); first | done | rfl | (simp only [List.length_drop, List.length_take]; rfl)) ?_; (with_reducible refine (cidr_Net_Nth.calls t12102 t12103 a1 (wrap64 (a2 + 1)) t12116 t12117 t12118 _ A74.out).mono ?_); rintro e w107 ⟨rfl, hb⟩; refine ⟨_, rfl, ?_⟩; have n0_ := Aside0.mk (blk_below (g := gb12101) (o := .cells #[.int .u32 a0_0, .int .i64 a0_1] 44 (0, 0)) (by (with_reducible repeat (first | refine blk_drewN ?_ _ | refine blk_drew ?_ | refine blk_alloc ?_ _)); exact BK12101.out) hb); have n1_ := Aside0.mk (blk_below (g := gb12104) (o := .cells #[.int .u32 t12102, .int .i64 t12103] 46 (0, 0)) (by (with_reducible repeat (first | refine blk_drewN ?_ _ | refine blk_drew ?_ | refine blk_alloc ?_ _)); exact BK12104.out) hb); have n2_ := Aside0.mk (blk_below (g := gb12109) (o := .cells #[.int .u32 t12106, .int .i64 t12107] 46 (0, 0)) (by (with_reducible repeat (first | refine blk_drewN ?_ _ | refine blk_drew ?_ | refine blk_alloc ?_ _)); exact BK12109.out) hb); have n3_ := Aside0.mk (below_step (by repeat (first | (with_reducible first | exact HB.out | apply below_alloc | apply pw_below_drewN | apply below_drew1 | refine below_set ?_ GE12101.out | refine below_set ?_ GE12104.out | refine below_set ?_ GE12109.out) | exact HB.out)) hb); clear BK12101; clear BK12104; clear BK12109; clear HB; have BK12101 := n0_; have BK12104 := n1_; have BK12109 := n2_; have HB := n3_; clear n0_ n1_ n2_ n3_; (try clear hb); (try clear hb2); (try clear hk); (try clear hi)) | ((with_reducible refine gate_dst (N := 12) rfl ?_); refine box_event ?hg (N := 12) ?hd (cs := #[.int .u32 0, .int .i64 0]) (t := 46) ?hr ?_; (case hd => rfl); (case hg => rfl); (case hr => first | (go_simp; done) | (go_simp; rfl)); intro gb12119 hg w108 hbox hb; have n0_ := Aside0.mk (blk_below (g := gb12101) (o := .cells #[.int .u32 a0_0, .int .i64 a0_1] 44 (0, 0)) (by (with_reducible repeat (first | refine blk_drewN ?_ _ | refine blk_drew ?_ | refine blk_alloc ?_ _)); exact BK12101.out) hb); have n1_ := Aside0.mk (blk_below (g := gb12104) (o := .cells #[.int .u32 t12102, .int .i64 t12103] 46 (0, 0)) (by (with_reducible repeat (first | refine blk_drewN ?_ _ | refine blk_drew ?_ | refine blk_alloc ?_ _)); exact BK12104.out) hb); have n2_ := Aside0.mk (blk_below (g := gb12109) (o := .cells #[.int .u32 t12106, .int .i64 t12107] 46 (0, 0)) (by (with_reducible repeat (first | refine blk_drewN ?_ _ | refine blk_drew ?_ | refine blk_alloc ?_ _)); exact BK12109.out) hb); have n3_ := Aside0.mk (below_step (by repeat (first | (with_reducible first | exact HB.out | apply below_alloc | apply pw_below_drewN | apply below_drew1 | refine below_set ?_ GE12101.out | refine below_set ?_ GE12104.out | refine below_set ?_ GE12109.out) | exact HB.out)) hb); have n4_ := Aside0.mk (hbox); have n5_ := Aside0.mk ((by rw [hg]; exact (below_size (by repeat (first | (with_reducible first | exact HB.out | apply below_alloc | apply pw_below_drewN | apply below_drew1 | refine below_set ?_ GE12101.out | refine below_set ?_ GE12104.out | refine below_set ?_ GE12109.out) | exact HB.out))) : w.heap.size ≤ gb12119)); have n6_ := Aside0.mk ((by rw [hg]; exact (below_size (by repeat (first | (with_reducible first | exact HB.out | apply below_alloc | apply pw_below_drewN | apply below_drew1 | refine below_set ?_ GE12101.out | refine below_set ?_ GE12104.out | refine below_set ?_ GE12109.out) | exact HB.out))) : w.heap.size ≤ gb12119)); have n7_ := Aside0.mk ((by rw [hg]; exact Nat.ne_of_lt (blk_lt (g := gb12101) (o := .cells #[.int .u32 a0_0, .int .i64 a0_1] 44 (0, 0)) (by (with_reducible repeat (first | refine blk_drewN ?_ _ | refine blk_drew ?_ | refine blk_alloc ?_ _)); exact BK12101.out)) : gb12101 ≠ gb12119)); have n8_ := Aside0.mk ((by rw [hg]; exact Nat.ne_of_gt (blk_lt (g := gb12101) (o := .cells #[.int .u32 a0_0, .int .i64 a0_1] 44 (0, 0)) (by (with_reducible repeat (first | refine blk_drewN ?_ _ | refine blk_drew ?_ | refine blk_alloc ?_ _)); exact BK12101.out)) : gb12119 ≠ gb12101)); have n9_ := Aside0.mk ((by rw [hg]; exact Nat.ne_of_lt (blk_lt (g := gb12104) (o := .cells #[.int .u32 t12102, .int .i64 t12103] 46 (0, 0)) (by (with_reducible repeat (first | refine blk_drewN ?_ _ | refine blk_drew ?_ | refine blk_alloc ?_ _)); exact BK12104.out)) : gb12104 ≠ gb12119)); have n10_ := Aside0.mk ((by rw [hg]; exact Nat.ne_of_gt (blk_lt (g := gb12104) (o := .cells #[.int .u32 t12102, .int .i64 t12103] 46 (0, 0)) (by (with_reducible repeat (first | refine blk_drewN ?_ _ | refine blk_drew ?_ | refine blk_alloc ?_ _)); exact BK12104.out)) : gb12119 ≠ gb12104)); have n11_ := Aside0.mk ((by rw [hg]; exact Nat.ne_of_lt (blk_lt (g := gb12109) (o := .cells #[.int .u32 t12106, .int .i64 t12107] 46 (0, 0)) (by (with_reducible repeat (first | refine blk_drewN ?_ _ | refine blk_drew ?_ | refine blk_alloc ?_ _)); exact BK12109.out)) : gb12109 ≠ gb12119)); have n12_ := Aside0.mk ((by rw [hg]; exact Nat.ne_of_gt (blk_lt (g := gb12109) (o := .cells #[.int .u32 t12106, .int .i64 t12107] 46 (0, 0)) (by (with_reducible repeat (first | refine blk_drewN ?_ _ | refine blk_drew ?_ | refine blk_alloc ?_ _)); exact BK12109.out)) : gb12119 ≠ gb12109)); clear BK12101; clear BK12104; clear BK12109; clear HB; have BK12101 := n0_; have BK12104 := n1_; have BK12109 := n2_; have HB := n3_; have BK12119 := n4_; have GW12119 := n5_; have GE12119 := n6_; have NB12101_12119 := n7_; have NB12119_12101 := n8_; have NB12104_12119 := n9_; have NB12119_12104 := n10_; have NB12109_12119 := n11_; have NB12119_12109 := n12_; clear n0_ n1_ n2_ n3_ n4_ n5_ n6_ n7_ n8_ n9_ n10_ n11_ n12_; clear hb hbox hg; have hnb109 := NB12119_12101.out; have hnc109 := NB12101_12119.out; have hnb110 := NB12119_12104.out; have hnc110 := NB12104_12119.out; have hnb111 := NB12119_12109.out; have hnc111 := NB12109_12119.out; have hcz112_0 : w108.cell? ⟨gb12119, 0, none⟩ = some (.int .u32 0) := (blk_cell BK12119.out 0).trans rfl; have hcz112_1 : w108.cell? ⟨gb12119, 1, none⟩ = some (.int .i64 0) := (blk_cell BK12119.out 1).trans rfl; have hfz112_0 := blk_frozen BK12119.out 0; have hfz112_1 := blk_frozen BK12119.out 1))
                      have n0_ : Aside0 (((w108.setCell ⟨gb12119, 0, none⟩ (.int .u32 t12116)).setCell ⟨gb12119, 1, none⟩ (.int .i64 t12117)).heap[gb12101]? = some (.cells #[.int .u32 a0_0, .int .i64 a0_1] 44 (0, 0))) := ⟨by (with_reducible repeat (first | refine blk_drewN ?_ _ | refine blk_drew ?_ | refine blk_alloc ?_ _)); refine blk_far ?_ NB12101_12119.out _; (with_reducible repeat (first | refine blk_drewN ?_ _ | refine blk_drew ?_ | refine blk_alloc ?_ _)); refine blk_far ?_ NB12101_12119.out _; (with_reducible repeat (first | refine blk_drewN ?_ _ | refine blk_drew ?_ | refine blk_alloc ?_ _)); exact BK12101.out⟩
                      have n1_ : Aside0 (((w108.setCell ⟨gb12119, 0, none⟩ (.int .u32 t12116)).setCell ⟨gb12119, 1, none⟩ (.int .i64 t12117)).heap[gb12104]? = some (.cells #[.int .u32 t12102, .int .i64 t12103] 46 (0, 0))) := ⟨by (with_reducible repeat (first | refine blk_drewN ?_ _ | refine blk_drew ?_ | refine blk_alloc ?_ _)); refine blk_far ?_ NB12104_12119.out _; (with_reducible repeat (first | refine blk_drewN ?_ _ | refine blk_drew ?_ | refine blk_alloc ?_ _)); refine blk_far ?_ NB12104_12119.out _; (with_reducible repeat (first | refine blk_drewN ?_ _ | refine blk_drew ?_ | refine blk_alloc ?_ _)); exact BK12104.out⟩
                      have n2_ : Aside0 (((w108.setCell ⟨gb12119, 0, none⟩ (.int .u32 t12116)).setCell ⟨gb12119, 1, none⟩ (.int .i64 t12117)).heap[gb12109]? = some (.cells #[.int .u32 t12106, .int .i64 t12107] 46 (0, 0))) := ⟨by (with_reducible repeat (first | refine blk_drewN ?_ _ | refine blk_drew ?_ | refine blk_alloc ?_ _)); refine blk_far ?_ NB12109_12119.out _; (with_reducible repeat (first | refine blk_drewN ?_ _ | refine blk_drew ?_ | refine blk_alloc ?_ _)); refine blk_far ?_ NB12109_12119.out _; (with_reducible repeat (first | refine blk_drewN ?_ _ | refine blk_drew ?_ | refine blk_alloc ?_ _)); exact BK12109.out⟩
                      have n3_ : Aside0 (((w108.setCell ⟨gb12119, 0, none⟩ (.int .u32 t12116)).setCell ⟨gb12119, 1, none⟩ (.int .i64 t12117)).heap[gb12119]? = some (.cells #[.int .u32 t12116, .int .i64 t12117] 46 (0, 0))) := ⟨by (with_reducible repeat (first | refine blk_drewN ?_ _ | refine blk_drew ?_ | refine blk_alloc ?_ _)); refine blk_put (cs := #[.int .u32 t12116, .int .i64 0]) ?_ 1 _ rfl; (with_reducible repeat (first | refine blk_drewN ?_ _ | refine blk_drew ?_ | refine blk_alloc ?_ _)); refine blk_put (cs := #[.int .u32 0, .int .i64 0]) ?_ 0 _ rfl; (with_reducible repeat (first | refine blk_drewN ?_ _ | refine blk_drew ?_ | refine blk_alloc ?_ _)); exact BK12119.out⟩
                      have n4_ : Aside0 (Below w.heap.size w ((w108.setCell ⟨gb12119, 0, none⟩ (.int .u32 t12116)).setCell ⟨gb12119, 1, none⟩ (.int .i64 t12117))) := ⟨by repeat (first | (with_reducible first | exact HB.out | apply below_alloc | apply pw_below_drewN | apply below_drew1 | refine below_set ?_ GE12101.out | refine below_set ?_ GE12104.out | refine below_set ?_ GE12109.out | refine below_set ?_ GE12119.out) | exact HB.out)⟩
                      (try clear BK12101)
                      (try clear BK12104)
                      (try clear BK12109)
                      (try clear BK12119)
                      (try clear HB)
                      generalize ((w108.setCell ⟨gb12119, 0, none⟩ (.int .u32 t12116)).setCell ⟨gb12119, 1, none⟩ (.int .i64 t12117)) = w113 at n0_ n1_ n2_ n3_ n4_ ⊢
                      have BK12101 := n0_
                      have BK12104 := n1_
                      have BK12109 := n2_
                      have BK12119 := n3_
                      have HB := n4_
                      clear n0_ n1_ n2_ n3_ n4_
                      have n0_ := Aside0.mk (blk_drew BK12101.out)
                      have n1_ := Aside0.mk (blk_drew BK12104.out)
                      have n2_ := Aside0.mk (blk_drew BK12109.out)
                      have n3_ := Aside0.mk (blk_drew BK12119.out)
                      have n4_ := Aside0.mk (below_drew1 HB.out)
                      clear BK12101
                      clear BK12104
                      clear BK12109
                      clear BK12119
                      clear HB
                      have BK12101 := n0_
                      have BK12104 := n1_
                      have BK12109 := n2_
                      have BK12119 := n3_
                      have HB := n4_
                      clear n0_ n1_ n2_ n3_ n4_
                      refine start_ (n := 16) (S := fun w' => True) (ds := []) #[false, false, false, false, false, false, false, false, false, false, false, false, false, false, false, false] (by kernel_rfl) rfl rfl trivial (fun hHeld => ?_); refine with_tabW virgatelaw02_CidrSplit.tab14 virgatelaw02_CidrSplit.bits14 (fun HT_ HW_ => ?_)
                      generalize w113.drew = w114 at BK12101 BK12104 BK12109 BK12119 HB hHeld ⊢
                      refine pure_ (i := 0) (N := some 99) (v := ?_) (a' := ?_) #[true, false, false, false, false, false, false, false, false, false, false, false, false, false, false, false] rfl rfl (any_of HT_.out (by kernel_rfl)) (fun _ _ _ h => h) (Or.inl ⟨by rfl, ?_⟩) ?_ ?_
                      rotate_left
                      · intro w'
                        go_simp
                        with_reducible rfl
                      rotate_left
                      · simp only [Act.put, List.setIfInBounds_toArray, List.set_cons_zero, List.set_cons_succ, i64_w, i32_w]
                        rfl
                      refine pure_ (i := 1) (N := some 100) (v := ?_) (a' := ?_) #[true, true, false, false, false, false, false, false, false, false, false, false, false, false, false, false] rfl rfl (any_of HT_.out (by kernel_rfl)) (fun _ _ _ h => h) (Or.inl ⟨by rfl, ?_⟩) ?_ ?_
                      rotate_left
                      · intro w'
                        go_simp
                        with_reducible rfl
                      rotate_left
                      · simp only [Act.put, List.setIfInBounds_toArray, List.set_cons_zero, List.set_cons_succ, i64_w, i32_w]
                        rfl
                      refine pure_ (i := 2) (N := some 101) (v := ?_) (a' := ?_) #[true, true, true, false, false, false, false, false, false, false, false, false, false, false, false, false] rfl rfl (any_of HT_.out (by kernel_rfl)) (fun _ _ _ h => h) (Or.inl ⟨by rfl, ?_⟩) ?_ ?_
                      rotate_left
                      · intro w'
                        go_simp
                        with_reducible rfl
                      rotate_left
                      · simp only [Act.put, List.setIfInBounds_toArray, List.set_cons_zero, List.set_cons_succ, i64_w, i32_w]
                        rfl
                      refine pure_ (i := 3) (N := some 102) (v := undef) (a' := ?_) #[true, true, true, true, false, false, false, false, false, false, false, false, false, false, false, false] rfl rfl (any_of HT_.out (by kernel_rfl)) (fun _ _ _ h => h) (Or.inr ⟨by rfl, rfl⟩) ?_ ?_
                      rotate_left
                      · simp only [Act.put, List.setIfInBounds_toArray, List.set_cons_zero, List.set_cons_succ, i64_w, i32_w]
                        rfl
                      refine pure_ (i := 4) (N := some 103) (v := undef) (a' := ?_) #[true, true, true, true, true, false, false, false, false, false, false, false, false, false, false, false] rfl rfl (any_of HT_.out (by kernel_rfl)) (fun _ _ _ h => h) (Or.inr ⟨by rfl, rfl⟩) ?_ ?_
                      rotate_left
                      · simp only [Act.put, List.setIfInBounds_toArray, List.set_cons_zero, List.set_cons_succ, i64_w, i32_w]
                        rfl
                      refine pure_ (i := 5) (N := some 104) (v := undef) (a' := ?_) #[true, true, true, true, true, true, false, false, false, false, false, false, false, false, false, false] rfl rfl (any_of HT_.out (by kernel_rfl)) (fun _ _ _ h => h) (Or.inr ⟨by rfl, rfl⟩) ?_ ?_
                      rotate_left
                      · simp only [Act.put, List.setIfInBounds_toArray, List.set_cons_zero, List.set_cons_succ, i64_w, i32_w]
                        rfl
                      refine pure_ (i := 6) (N := some 105) (v := undef) (a' := ?_) #[true, true, true, true, true, true, true, false, false, false, false, false, false, false, false, false] rfl rfl (any_of HT_.out (by kernel_rfl)) (fun _ _ _ h => h) (Or.inr ⟨by rfl, rfl⟩) ?_ ?_
                      rotate_left
                      · simp only [Act.put, List.setIfInBounds_toArray, List.set_cons_zero, List.set_cons_succ, i64_w, i32_w]
                        rfl
                      refine pure_ (i := 7) (N := some 106) (v := undef) (a' := ?_) #[true, true, true, true, true, true, true, true, false, false, false, false, false, false, false, false] rfl rfl (any_of HT_.out (by kernel_rfl)) (fun _ _ _ h => h) (Or.inr ⟨by rfl, rfl⟩) ?_ ?_
                      rotate_left
                      · simp only [Act.put, List.setIfInBounds_toArray, List.set_cons_zero, List.set_cons_succ, i64_w, i32_w]
                        rfl
                      refine pure_ (i := 8) (N := some 107) (v := undef) (a' := ?_) #[true, true, true, true, true, true, true, true, true, false, false, false, false, false, false, false] rfl rfl (any_of HT_.out (by kernel_rfl)) (fun _ _ _ h => h) (Or.inr ⟨by rfl, rfl⟩) ?_ ?_
                      rotate_left
                      · simp only [Act.put, List.setIfInBounds_toArray, List.set_cons_zero, List.set_cons_succ, i64_w, i32_w]
                        rfl
                      refine pure_ (i := 9) (N := some 108) (v := undef) (a' := ?_) #[true, true, true, true, true, true, true, true, true, true, false, false, false, false, false, false] rfl rfl (any_of HT_.out (by kernel_rfl)) (fun _ _ _ h => h) (Or.inr ⟨by rfl, rfl⟩) ?_ ?_
                      rotate_left
                      · simp only [Act.put, List.setIfInBounds_toArray, List.set_cons_zero, List.set_cons_succ, i64_w, i32_w]
                        rfl
                      refine pure_ (i := 10) (N := some 109) (v := undef) (a' := ?_) #[true, true, true, true, true, true, true, true, true, true, true, false, false, false, false, false] rfl rfl (any_of HT_.out (by kernel_rfl)) (fun _ _ _ h => h) (Or.inr ⟨by rfl, rfl⟩) ?_ ?_
                      rotate_left
                      · simp only [Act.put, List.setIfInBounds_toArray, List.set_cons_zero, List.set_cons_succ, i64_w, i32_w]
                        rfl
                      refine pure_ (i := 11) (N := some 110) (v := ?_) (a' := ?_) #[true, true, true, true, true, true, true, true, true, true, true, true, false, false, false, false] rfl rfl (any_of HT_.out (by kernel_rfl)) (fun _ _ _ h => h) (Or.inl ⟨by rfl, ?_⟩) ?_ ?_
                      rotate_left
                      · intro w'
                        go_simp
                        with_reducible rfl
                      rotate_left
                      · simp only [Act.put, List.setIfInBounds_toArray, List.set_cons_zero, List.set_cons_succ, i64_w, i32_w]
                        rfl
                      refine pure_ (i := 12) (N := some 111) (v := ?_) (a' := ?_) #[true, true, true, true, true, true, true, true, true, true, true, true, true, false, false, false] rfl rfl (any_of HT_.out (by kernel_rfl)) (fun _ _ _ h => h) (Or.inl ⟨by rfl, ?_⟩) ?_ ?_
                      rotate_left
                      · intro w'
                        go_simp
                        with_reducible rfl
                      rotate_left
                      · simp only [Act.put, List.setIfInBounds_toArray, List.set_cons_zero, List.set_cons_succ, i64_w, i32_w]
                        rfl
                      refine pure_ (i := 13) (N := some 112) (v := undef) (a' := ?_) #[true, true, true, true, true, true, true, true, true, true, true, true, true, true, false, false] rfl rfl (any_of HT_.out (by kernel_rfl)) (fun _ _ _ h => h) (Or.inr ⟨by rfl, rfl⟩) ?_ ?_
                      rotate_left
                      · simp only [Act.put, List.setIfInBounds_toArray, List.set_cons_zero, List.set_cons_succ, i64_w, i32_w]
                        rfl
                      refine pure_ (i := 14) (N := some 113) (v := ?_) (a' := ?_) #[true, true, true, true, true, true, true, true, true, true, true, true, true, true, true, false] rfl rfl (any_of HT_.out (by kernel_rfl)) (fun _ _ _ h => h) (Or.inl ⟨by rfl, ?_⟩) ?_ ?_
                      rotate_left
                      · intro w'
                        go_simp
                        with_reducible rfl
                      rotate_left
                      · simp only [Act.put, List.setIfInBounds_toArray, List.set_cons_zero, List.set_cons_succ, i64_w, i32_w]
                        rfl
                      refine pure_ (i := 15) (N := some 6) (v := ?_) (a' := ?_) #[true, true, true, true, true, true, true, true, true, true, true, true, true, true, true, true] rfl rfl (any_of HT_.out (by kernel_rfl)) (fun _ _ _ h => h) (Or.inl ⟨by rfl, ?_⟩) ?_ ?_
                      rotate_left
                      · intro w'
                        go_simp
                        with_reducible rfl
                      rotate_left
                      · simp only [Act.put, List.setIfInBounds_toArray, List.set_cons_zero, List.set_cons_succ, i64_w, i32_w]
                        rfl
                      refine done_ (done_of HT_.out (by kernel_rfl)) ?_
                      try go_wp2
                      go_ret
                      exact ⟨by first | rfl | (simp [errW_none, errW_some] <;> rfl) | (simp only [← hji38, ← hji40]; first | rfl | (simp [errW_none, errW_some] <;> rfl)) | (simp [*, errW_none, errW_some] <;> rfl), by repeat (first | (with_reducible first | exact HB.out | apply below_alloc | apply pw_below_drewN | apply below_drew1 | refine below_set ?_ GE12101.out | refine below_set ?_ GE12104.out | refine below_set ?_ GE12109.out | refine below_set ?_ GE12119.out) | exact HB.out)⟩
          · rw [if_neg c39] at H
            exact absurd H (by simp)
  · rw [if_neg c8] at H
    have c8b0 : (t12110 == t12105) = false := beq_eq_false_iff_ne.mpr c8
    have c8b1 : (t12110 != t12105) = true := bne_iff_ne.mpr c8
    obtain rfl := Option.some.inj H
    go_enter Tryd.func12, Tryd.ntmps12
    go_wp2_with (first | ((with_reducible refine gate_dst (N := 3) rfl ?_); refine box_event ?hg (N := 3) ?hd (cs := #[.int .u32 a0_0, .int .i64 a0_1]) (t := 44) ?hr ?_; (case hd => rfl); (case hg => rfl); (case hr => first | (go_simp; done) | (go_simp; rfl)); intro gb12101 hg w115 hbox hb; have n0_ := Aside0.mk (below_step (by repeat (first | (with_reducible first | exact HB.out | apply below_alloc | apply pw_below_drewN | apply below_drew1) | exact HB.out)) hb); have n1_ := Aside0.mk (hbox); have n2_ := Aside0.mk ((by rw [hg]; exact (below_size (by repeat (first | (with_reducible first | exact HB.out | apply below_alloc | apply pw_below_drewN | apply below_drew1) | exact HB.out))) : w.heap.size ≤ gb12101)); have n3_ := Aside0.mk ((by rw [hg]; exact (below_size (by repeat (first | (with_reducible first | exact HB.out | apply below_alloc | apply pw_below_drewN | apply below_drew1) | exact HB.out))) : w.heap.size ≤ gb12101)); clear HB; have HB := n0_; have BK12101 := n1_; have GW12101 := n2_; have GE12101 := n3_; clear n0_ n1_ n2_ n3_; clear hb hbox hg; have hcz116_0 : w115.cell? ⟨gb12101, 0, none⟩ = some (.int .u32 a0_0) := (blk_cell BK12101.out 0).trans rfl; have hcz116_1 : w115.cell? ⟨gb12101, 1, none⟩ = some (.int .i64 a0_1) := (blk_cell BK12101.out 1).trans rfl; have hfz116_0 := blk_frozen BK12101.out 0; have hfz116_1 := blk_frozen BK12101.out 1) | ((with_reducible refine gate_callee (f := 33) rfl ?_); refine goesL_ (some 15) rfl rfl Tryd.func33 (by kernel_rfl) rfl #[.agg #[.int .u32 a0_0, .int .i64 a0_1]] rfl (by (try simp only [List.map_toArray, List.map_cons, List.map_nil]); first | done | rfl | (simp only [List.length_drop, List.length_take]; rfl)) ?_; (with_reducible refine (virgatelaw02_Ours.calls a0_0 a0_1 t12102 t12103 _ A4.out).mono ?_); rintro e w117 ⟨rfl, hb⟩; refine ⟨_, rfl, ?_⟩; have n0_ := Aside0.mk (blk_below (g := gb12101) (o := .cells #[.int .u32 a0_0, .int .i64 a0_1] 44 (0, 0)) (by (with_reducible repeat (first | refine blk_drewN ?_ _ | refine blk_drew ?_ | refine blk_alloc ?_ _)); exact BK12101.out) hb); have n1_ := Aside0.mk (below_step (by repeat (first | (with_reducible first | exact HB.out | apply below_alloc | apply pw_below_drewN | apply below_drew1 | refine below_set ?_ GE12101.out) | exact HB.out)) hb); clear BK12101; clear HB; have BK12101 := n0_; have HB := n1_; clear n0_ n1_; (try clear hb); (try clear hb2); (try clear hk); (try clear hi)) | ((with_reducible refine gate_dst (N := 7) rfl ?_); refine box_event ?hg (N := 7) ?hd (cs := #[.int .u32 0, .int .i64 0]) (t := 46) ?hr ?_; (case hd => rfl); (case hg => rfl); (case hr => first | (go_simp; done) | (go_simp; rfl)); intro gb12104 hg w118 hbox hb; have n0_ := Aside0.mk (blk_below (g := gb12101) (o := .cells #[.int .u32 a0_0, .int .i64 a0_1] 44 (0, 0)) (by (with_reducible repeat (first | refine blk_drewN ?_ _ | refine blk_drew ?_ | refine blk_alloc ?_ _)); exact BK12101.out) hb); have n1_ := Aside0.mk (below_step (by repeat (first | (with_reducible first | exact HB.out | apply below_alloc | apply pw_below_drewN | apply below_drew1 | refine below_set ?_ GE12101.out) | exact HB.out)) hb); have n2_ := Aside0.mk (hbox); have n3_ := Aside0.mk ((by rw [hg]; exact (below_size (by repeat (first | (with_reducible first | exact HB.out | apply below_alloc | apply pw_below_drewN | apply below_drew1 | refine below_set ?_ GE12101.out) | exact HB.out))) : w.heap.size ≤ gb12104)); have n4_ := Aside0.mk ((by rw [hg]; exact (below_size (by repeat (first | (with_reducible first | exact HB.out | apply below_alloc | apply pw_below_drewN | apply below_drew1 | refine below_set ?_ GE12101.out) | exact HB.out))) : w.heap.size ≤ gb12104)); have n5_ := Aside0.mk ((by rw [hg]; exact Nat.ne_of_lt (blk_lt (g := gb12101) (o := .cells #[.int .u32 a0_0, .int .i64 a0_1] 44 (0, 0)) (by (with_reducible repeat (first | refine blk_drewN ?_ _ | refine blk_drew ?_ | refine blk_alloc ?_ _)); exact BK12101.out)) : gb12101 ≠ gb12104)); have n6_ := Aside0.mk ((by rw [hg]; exact Nat.ne_of_gt (blk_lt (g := gb12101) (o := .cells #[.int .u32 a0_0, .int .i64 a0_1] 44 (0, 0)) (by (with_reducible repeat (first | refine blk_drewN ?_ _ | refine blk_drew ?_ | refine blk_alloc ?_ _)); exact BK12101.out)) : gb12104 ≠ gb12101)); clear BK12101; clear HB; have BK12101 := n0_; have HB := n1_; have BK12104 := n2_; have GW12104 := n3_; have GE12104 := n4_; have NB12101_12104 := n5_; have NB12104_12101 := n6_; clear n0_ n1_ n2_ n3_ n4_ n5_ n6_; clear hb hbox hg; have hnb119 := NB12104_12101.out; have hnc119 := NB12101_12104.out; have hcz120_0 : w118.cell? ⟨gb12104, 0, none⟩ = some (.int .u32 0) := (blk_cell BK12104.out 0).trans rfl; have hcz120_1 : w118.cell? ⟨gb12104, 1, none⟩ = some (.int .i64 0) := (blk_cell BK12104.out 1).trans rfl; have hfz120_0 := blk_frozen BK12104.out 0; have hfz120_1 := blk_frozen BK12104.out 1; have hcz121_0 : w118.cell? ⟨gb12101, 0, none⟩ = some (.int .u32 a0_0) := (blk_cell BK12101.out 0).trans rfl; have hcz121_1 : w118.cell? ⟨gb12101, 1, none⟩ = some (.int .i64 a0_1) := (blk_cell BK12101.out 1).trans rfl; have hfz121_0 := blk_frozen BK12101.out 0; have hfz121_1 := blk_frozen BK12101.out 1) | ((with_reducible refine gate_callee (f := 46) rfl ?_); refine goesL_ (some 18) rfl rfl Tryd.func46 (by kernel_rfl) rfl #[.agg #[.int .u32 a0_0, .int .i64 a0_1], .int .i64 a1] rfl (by (try simp only [List.map_toArray, List.map_cons, List.map_nil]); first | done | rfl | (simp only [List.length_drop, List.length_take]; rfl)) ?_; (with_reducible refine (virgateref02_Count.calls k a0_0 a0_1 a1 t12105 _ A5.out).mono ?_); rintro e w122 ⟨rfl, hb⟩; refine ⟨_, rfl, ?_⟩; have n0_ := Aside0.mk (blk_below (g := gb12101) (o := .cells #[.int .u32 a0_0, .int .i64 a0_1] 44 (0, 0)) (by (with_reducible repeat (first | refine blk_drewN ?_ _ | refine blk_drew ?_ | refine blk_alloc ?_ _)); refine blk_far ?_ NB12101_12104.out _; (with_reducible repeat (first | refine blk_drewN ?_ _ | refine blk_drew ?_ | refine blk_alloc ?_ _)); refine blk_far ?_ NB12101_12104.out _; (with_reducible repeat (first | refine blk_drewN ?_ _ | refine blk_drew ?_ | refine blk_alloc ?_ _)); exact BK12101.out) hb); have n1_ := Aside0.mk (blk_below (g := gb12104) (o := .cells #[.int .u32 t12102, .int .i64 t12103] 46 (0, 0)) (by (with_reducible repeat (first | refine blk_drewN ?_ _ | refine blk_drew ?_ | refine blk_alloc ?_ _)); refine blk_put (cs := #[.int .u32 t12102, .int .i64 0]) ?_ 1 _ rfl; (with_reducible repeat (first | refine blk_drewN ?_ _ | refine blk_drew ?_ | refine blk_alloc ?_ _)); refine blk_put (cs := #[.int .u32 0, .int .i64 0]) ?_ 0 _ rfl; (with_reducible repeat (first | refine blk_drewN ?_ _ | refine blk_drew ?_ | refine blk_alloc ?_ _)); exact BK12104.out) hb); have n2_ := Aside0.mk (below_step (by repeat (first | (with_reducible first | exact HB.out | apply below_alloc | apply pw_below_drewN | apply below_drew1 | refine below_set ?_ GE12101.out | refine below_set ?_ GE12104.out) | exact HB.out)) hb); clear BK12101; clear BK12104; clear HB; have BK12101 := n0_; have BK12104 := n1_; have HB := n2_; clear n0_ n1_ n2_; (try clear hb); (try clear hb2); (try clear hk); (try clear hi); have hcz123_0 : w122.cell? ⟨gb12104, 0, none⟩ = some (.int .u32 t12102) := (blk_cell BK12104.out 0).trans rfl; have hcz123_1 : w122.cell? ⟨gb12104, 1, none⟩ = some (.int .i64 t12103) := (blk_cell BK12104.out 1).trans rfl; have hfz123_0 := blk_frozen BK12104.out 0; have hfz123_1 := blk_frozen BK12104.out 1) | ((with_reducible refine gate_callee (f := 47) rfl ?_); refine goesL_ (some 23) rfl rfl Tryd.func47 (by kernel_rfl) rfl #[.agg #[.int .u32 t12102, .int .i64 t12103], .int .i64 a1, .int .i64 a2] rfl (by (try simp only [List.map_toArray, List.map_cons, List.map_nil]); first | done | rfl | (simp only [List.length_drop, List.length_take]; rfl)) ?_; (with_reducible refine (cidr_Net_Nth.calls t12102 t12103 a1 a2 t12106 t12107 t12108 _ A6.out).mono ?_); rintro e w124 ⟨rfl, hb⟩; refine ⟨_, rfl, ?_⟩; have n0_ := Aside0.mk (blk_below (g := gb12101) (o := .cells #[.int .u32 a0_0, .int .i64 a0_1] 44 (0, 0)) (by (with_reducible repeat (first | refine blk_drewN ?_ _ | refine blk_drew ?_ | refine blk_alloc ?_ _)); exact BK12101.out) hb); have n1_ := Aside0.mk (blk_below (g := gb12104) (o := .cells #[.int .u32 t12102, .int .i64 t12103] 46 (0, 0)) (by (with_reducible repeat (first | refine blk_drewN ?_ _ | refine blk_drew ?_ | refine blk_alloc ?_ _)); exact BK12104.out) hb); have n2_ := Aside0.mk (below_step (by repeat (first | (with_reducible first | exact HB.out | apply below_alloc | apply pw_below_drewN | apply below_drew1 | refine below_set ?_ GE12101.out | refine below_set ?_ GE12104.out) | exact HB.out)) hb); clear BK12101; clear BK12104; clear HB; have BK12101 := n0_; have BK12104 := n1_; have HB := n2_; clear n0_ n1_ n2_; (try clear hb); (try clear hb2); (try clear hk); (try clear hi)) | ((with_reducible refine gate_dst (N := 9) rfl ?_); refine box_event ?hg (N := 9) ?hd (cs := #[.int .u32 0, .int .i64 0]) (t := 46) ?hr ?_; (case hd => rfl); (case hg => rfl); (case hr => first | (go_simp; done) | (go_simp; rfl)); intro gb12109 hg w125 hbox hb; have n0_ := Aside0.mk (blk_below (g := gb12101) (o := .cells #[.int .u32 a0_0, .int .i64 a0_1] 44 (0, 0)) (by (with_reducible repeat (first | refine blk_drewN ?_ _ | refine blk_drew ?_ | refine blk_alloc ?_ _)); exact BK12101.out) hb); have n1_ := Aside0.mk (blk_below (g := gb12104) (o := .cells #[.int .u32 t12102, .int .i64 t12103] 46 (0, 0)) (by (with_reducible repeat (first | refine blk_drewN ?_ _ | refine blk_drew ?_ | refine blk_alloc ?_ _)); exact BK12104.out) hb); have n2_ := Aside0.mk (below_step (by repeat (first | (with_reducible first | exact HB.out | apply below_alloc | apply pw_below_drewN | apply below_drew1 | refine below_set ?_ GE12101.out | refine below_set ?_ GE12104.out) | exact HB.out)) hb); have n3_ := Aside0.mk (hbox); have n4_ := Aside0.mk ((by rw [hg]; exact (below_size (by repeat (first | (with_reducible first | exact HB.out | apply below_alloc | apply pw_below_drewN | apply below_drew1 | refine below_set ?_ GE12101.out | refine below_set ?_ GE12104.out) | exact HB.out))) : w.heap.size ≤ gb12109)); have n5_ := Aside0.mk ((by rw [hg]; exact (below_size (by repeat (first | (with_reducible first | exact HB.out | apply below_alloc | apply pw_below_drewN | apply below_drew1 | refine below_set ?_ GE12101.out | refine below_set ?_ GE12104.out) | exact HB.out))) : w.heap.size ≤ gb12109)); have n6_ := Aside0.mk ((by rw [hg]; exact Nat.ne_of_lt (blk_lt (g := gb12101) (o := .cells #[.int .u32 a0_0, .int .i64 a0_1] 44 (0, 0)) (by (with_reducible repeat (first | refine blk_drewN ?_ _ | refine blk_drew ?_ | refine blk_alloc ?_ _)); exact BK12101.out)) : gb12101 ≠ gb12109)); have n7_ := Aside0.mk ((by rw [hg]; exact Nat.ne_of_gt (blk_lt (g := gb12101) (o := .cells #[.int .u32 a0_0, .int .i64 a0_1] 44 (0, 0)) (by (with_reducible repeat (first | refine blk_drewN ?_ _ | refine blk_drew ?_ | refine blk_alloc ?_ _)); exact BK12101.out)) : gb12109 ≠ gb12101)); have n8_ := Aside0.mk ((by rw [hg]; exact Nat.ne_of_lt (blk_lt (g := gb12104) (o := .cells #[.int .u32 t12102, .int .i64 t12103] 46 (0, 0)) (by (with_reducible repeat (first | refine blk_drewN ?_ _ | refine blk_drew ?_ | refine blk_alloc ?_ _)); exact BK12104.out)) : gb12104 ≠ gb12109)); have n9_ := Aside0.mk ((by rw [hg]; exact Nat.ne_of_gt (blk_lt (g := gb12104) (o := .cells #[.int .u32 t12102, .int .i64 t12103] 46 (0, 0)) (by (with_reducible repeat (first | refine blk_drewN ?_ _ | refine blk_drew ?_ | refine blk_alloc ?_ _)); exact BK12104.out)) : gb12109 ≠ gb12104)); clear BK12101; clear BK12104; clear HB; have BK12101 := n0_; have BK12104 := n1_; have HB := n2_; have BK12109 := n3_; have GW12109 := n4_; have GE12109 := n5_; have NB12101_12109 := n6_; have NB12109_12101 := n7_; have NB12104_12109 := n8_; have NB12109_12104 := n9_; clear n0_ n1_ n2_ n3_ n4_ n5_ n6_ n7_ n8_ n9_; clear hb hbox hg; have hnb126 := NB12109_12101.out; have hnc126 := NB12101_12109.out; have hnb127 := NB12109_12104.out; have hnc127 := NB12104_12109.out; have hcz128_0 : w125.cell? ⟨gb12109, 0, none⟩ = some (.int .u32 0) := (blk_cell BK12109.out 0).trans rfl; have hcz128_1 : w125.cell? ⟨gb12109, 1, none⟩ = some (.int .i64 0) := (blk_cell BK12109.out 1).trans rfl; have hfz128_0 := blk_frozen BK12109.out 0; have hfz128_1 := blk_frozen BK12109.out 1; have hcz129_0 : w125.cell? ⟨gb12104, 0, none⟩ = some (.int .u32 t12102) := (blk_cell BK12104.out 0).trans rfl; have hcz129_1 : w125.cell? ⟨gb12104, 1, none⟩ = some (.int .i64 t12103) := (blk_cell BK12104.out 1).trans rfl; have hfz129_0 := blk_frozen BK12104.out 0; have hfz129_1 := blk_frozen BK12104.out 1) | ((with_reducible refine gate_callee (f := 48) rfl ?_); refine goesL_ (some 28) rfl rfl Tryd.func48 (by kernel_rfl) rfl #[.agg #[.int .u32 t12102, .int .i64 t12103], .int .i64 a1] rfl (by (try simp only [List.map_toArray, List.map_cons, List.map_nil]); first | done | rfl | (simp only [List.length_drop, List.length_take]; rfl)) ?_; (with_reducible refine (cidr_Net_Count.calls t12102 t12103 a1 t12110 _ A7.out).mono ?_); rintro e w130 ⟨rfl, hb⟩; refine ⟨_, rfl, ?_⟩; have n0_ := Aside0.mk (blk_below (g := gb12101) (o := .cells #[.int .u32 a0_0, .int .i64 a0_1] 44 (0, 0)) (by (with_reducible repeat (first | refine blk_drewN ?_ _ | refine blk_drew ?_ | refine blk_alloc ?_ _)); refine blk_far ?_ NB12101_12109.out _; (with_reducible repeat (first | refine blk_drewN ?_ _ | refine blk_drew ?_ | refine blk_alloc ?_ _)); refine blk_far ?_ NB12101_12109.out _; (with_reducible repeat (first | refine blk_drewN ?_ _ | refine blk_drew ?_ | refine blk_alloc ?_ _)); exact BK12101.out) hb); have n1_ := Aside0.mk (blk_below (g := gb12104) (o := .cells #[.int .u32 t12102, .int .i64 t12103] 46 (0, 0)) (by (with_reducible repeat (first | refine blk_drewN ?_ _ | refine blk_drew ?_ | refine blk_alloc ?_ _)); refine blk_far ?_ NB12104_12109.out _; (with_reducible repeat (first | refine blk_drewN ?_ _ | refine blk_drew ?_ | refine blk_alloc ?_ _)); refine blk_far ?_ NB12104_12109.out _; (with_reducible repeat (first | refine blk_drewN ?_ _ | refine blk_drew ?_ | refine blk_alloc ?_ _)); exact BK12104.out) hb); have n2_ := Aside0.mk (blk_below (g := gb12109) (o := .cells #[.int .u32 t12106, .int .i64 t12107] 46 (0, 0)) (by (with_reducible repeat (first | refine blk_drewN ?_ _ | refine blk_drew ?_ | refine blk_alloc ?_ _)); refine blk_put (cs := #[.int .u32 t12106, .int .i64 0]) ?_ 1 _ rfl; (with_reducible repeat (first | refine blk_drewN ?_ _ | refine blk_drew ?_ | refine blk_alloc ?_ _)); refine blk_put (cs := #[.int .u32 0, .int .i64 0]) ?_ 0 _ rfl; (with_reducible repeat (first | refine blk_drewN ?_ _ | refine blk_drew ?_ | refine blk_alloc ?_ _)); exact BK12109.out) hb); have n3_ := Aside0.mk (below_step (by repeat (first | (with_reducible first | exact HB.out | apply below_alloc | apply pw_below_drewN | apply below_drew1 | refine below_set ?_ GE12101.out | refine below_set ?_ GE12104.out | refine below_set ?_ GE12109.out) | exact HB.out)) hb); clear BK12101; clear BK12104; clear BK12109; clear HB; have BK12101 := n0_; have BK12104 := n1_; have BK12109 := n2_; have HB := n3_; clear n0_ n1_ n2_ n3_; (try clear hb); (try clear hb2); (try clear hk); (try clear hi)))
    go_ret
    exact ⟨by first | rfl | (simp [errW_none, errW_some] <;> rfl) | (simp [*, errW_none, errW_some] <;> rfl), by repeat (first | (with_reducible first | exact HB.out | apply below_alloc | apply pw_below_drewN | apply below_drew1 | refine below_set ?_ GE12101.out | refine below_set ?_ GE12104.out | refine below_set ?_ GE12109.out) | exact HB.out)⟩

end Go.Proofs.YtcdopgkkieenjaaDoor.V
