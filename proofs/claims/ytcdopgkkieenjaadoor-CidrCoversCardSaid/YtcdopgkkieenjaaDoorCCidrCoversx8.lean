/- The law CidrCovers for every input: texts of ours, put together (part 9 of 10). No further condition. -/
import Derived.Test.YtcdopgkkieenjaaDoorCCidrCoversx7
-- LCCovers
/- CidrCovers: the walk, and the plain law. -/
namespace Go.Proofs.YtcdopgkkieenjaaDoor.V
open Go.RowKit Go.Proofs.YtcdopgkkieenjaaDoorW.PrintWords Go.Proofs.YtcdopgkkieenjaaDoorW.PrintLast Go.Proofs.YtcdopgkkieenjaaDoorW.PrintMore
set_option linter.unusedVariables false
set_option linter.unusedSimpArgs false
theorem cell_keep {w w' : World} {p : Addr} {v : Value} (h : Below w.heap.size w w') (hc : w.cell? p = some v) : w'.cell? p = some v := (h.cell (World.block_lt_of_cell? _ _ hc)).trans hc
def virgatelaw02_CidrCovers.T1 : Bool × List (List Nat × List Nat) := (true, [([], []), ([0], [0]), ([], []), ([2, 1], [2]), ([], []), ([], []), ([4, 1, 3, 0, 1, 4, 5], [1, 4]), ([5, 3, 6, 0, 1, 2, 3, 4, 5, 6], [3, 5])])
def virgatelaw02_CidrCovers.B1 : List Nat := [0, 1, 0, 7, 0, 0, 63, 127]
theorem virgatelaw02_CidrCovers.tab1 : rtab .any (opsOf Tryd.f10 1) = virgatelaw02_CidrCovers.T1 := by kernel_rfl
theorem virgatelaw02_CidrCovers.bits1 : waitsOk virgatelaw02_CidrCovers.T1.2 virgatelaw02_CidrCovers.B1 = true := by kernel_rfl
def cidrCovers2.T2 : Bool × List (List Nat × List Nat) := (true, [([], []), ([], []), ([0, 1], [0, 1]), ([], []), ([], []), ([3, 4, 2], [3, 4]), ([2, 5], [2, 5]), ([6, 5], [6]), ([7], [7]), ([7], [7]), ([8, 9, 7, 7], [7, 8, 9]), ([7], [7]), ([7], [7]), ([11, 12, 10, 7], [7, 11, 12]), ([10, 13, 7], [7, 10, 13]), ([7, 14], [7, 14]), ([15, 13], [15]), ([16], [16]), ([16], [16]), ([17, 18, 16, 16], [16, 17, 18]), ([16], [16]), ([16], [16]), ([20, 21, 19, 16], [16, 20, 21]), ([22, 22, 16], [16, 22]), ([23], [23]), ([23], [23]), ([24, 25, 23, 23], [23, 24, 25]), ([23, 26, 16], [16, 23, 26]), ([19, 27, 16], [16, 19, 27]), ([16, 28], [16, 28]), ([29, 26], [29]), ([30], [30]), ([30], [30]), ([31, 32, 30, 30], [30, 31, 32]), ([30], [30]), ([30], [30]), ([34, 35, 33, 30], [30, 34, 35]), ([33, 36, 30], [30, 33, 36]), ([30, 37], [30, 37]), ([38, 36], [38]), ([39, 39], [39]), ([39, 40], [39, 40]), ([41, 40, 0, 1, 2, 3, 4, 5, 6, 7, 8, 9, 10, 11, 12, 13, 14, 15, 16, 17, 18, 19, 20, 21, 22, 23, 24, 25, 26, 27, 28, 29, 30, 31, 32, 33, 34, 35, 36, 37, 38, 39, 40, 41], [41])])
def cidrCovers2.B2 : List Nat := [0, 0, 3, 0, 0, 31, 63, 127, 255, 255, 1023, 255, 255, 8191, 16383, 32767, 65535, 131071, 131071, 524287, 131071, 131071, 4194303, 8388607, 16777215, 16777215, 67108863, 134217727, 268435455, 536870911, 1073741823, 2147483647, 2147483647, 8589934591, 2147483647, 2147483647, 68719476735, 137438953471, 274877906943, 549755813887, 1099511627775, 2199023255551, 4398046511103]
theorem cidrCovers2.tab2 : rtab .any (opsOf Tryd.f10 2) = cidrCovers2.T2 := by kernel_rfl
theorem cidrCovers2.bits2 : waitsOk cidrCovers2.T2.2 cidrCovers2.B2 = true := by kernel_rfl
set_option maxHeartbeats 8000000 in
set_option maxRecDepth 100000 in
theorem covers_any (a0_0 a0_1 a1_0 a1_1 : Int) (k : Nat) (hk : 8 ≤ k) (p q : Bool) (h1 : cidr_Net_Covers.f a0_0 a0_1 a1_0 a1_1 = some p) (h2 : cidr_Net_Covers.f a1_0 a1_1 a0_0 a0_1 = some q) (h3 : virgateref02_Covers.f k a0_0 a0_1 a1_0 a1_1 = some p) (h4 : cidr_Net_Meets.f a0_0 a0_1 a1_0 a1_1 = some (p || q)) (h5 : cidr_Net_Meets.f a1_0 a1_1 a0_0 a0_1 = some (p || q)) (h6 : virgateref02_Meets.f k a0_0 a0_1 a1_0 a1_1 = some (p || q)) (w : World) :
    Calls Tryd.prog 10 #[.agg #[.int .u32 a0_0, .int .i64 a0_1], .agg #[.int .u32 a1_0, .int .i64 a1_1]] w fun e w' => e = .returned (.bool true) ∧ Below w.heap.size w w' := by
  have hu44 := Tryd.underlying44
  have hu46 := Tryd.underlying46
  have HB := Aside0.mk (Below.refl w.heap.size w)
  have H1 := Aside0.mk h1
  have H2 := Aside0.mk h2
  have H3 := Aside0.mk h3
  have H4 := Aside0.mk h4
  have H5 := Aside0.mk h5
  have H6 := Aside0.mk h6
  clear h1 h2 h3 h4 h5 h6
  have A3 := Aside0.mk (show virgatelaw02_Ours.f a0_0 a0_1 = some (a0_0, a0_1) from rfl)
  have A4 := Aside0.mk (show virgatelaw02_Ours.f a1_0 a1_1 = some (a1_0, a1_1) from rfl)
  go_enter Tryd.func10, Tryd.ntmps10
  try go_wp2_with (first | ((with_reducible refine gate_dst (N := 2) rfl ?_); refine box_event ?hg (N := 2) ?hd (cs := #[.int .u32 a0_0, .int .i64 a0_1]) (t := 44) ?hr ?_; (case hd => rfl); (case hg => rfl); (case hr => first | (go_simp; done) | (go_simp; rfl)); intro gb10101 hg w19 hbox hb; have n0_ := Aside0.mk (below_step (by repeat (first | (with_reducible first | exact HB.out | apply below_alloc | apply pw_below_drewN | apply below_drew1) | exact HB.out)) hb); have n1_ := Aside0.mk (hbox); have n2_ := Aside0.mk ((by rw [hg]; exact (below_size (by repeat (first | (with_reducible first | exact HB.out | apply below_alloc | apply pw_below_drewN | apply below_drew1) | exact HB.out))) : w.heap.size ≤ gb10101)); have n3_ := Aside0.mk ((by rw [hg]; exact (below_size (by repeat (first | (with_reducible first | exact HB.out | apply below_alloc | apply pw_below_drewN | apply below_drew1) | exact HB.out))) : w.heap.size ≤ gb10101)); clear HB; have HB := n0_; have BK10101 := n1_; have GW10101 := n2_; have GE10101 := n3_; clear n0_ n1_ n2_ n3_; clear hb hbox hg) | ((with_reducible refine gate_dst (N := 3) rfl ?_); refine box_event ?hg (N := 3) ?hd (cs := #[.int .u32 a1_0, .int .i64 a1_1]) (t := 44) ?hr ?_; (case hd => rfl); (case hg => rfl); (case hr => first | (go_simp; done) | (go_simp; rfl)); intro gb10102 hg w20 hbox hb; have n0_ := Aside0.mk (blk_below (g := gb10101) (o := .cells #[.int .u32 a0_0, .int .i64 a0_1] 44 (0, 0)) (by (with_reducible repeat (first | refine blk_drewN ?_ _ | refine blk_drew ?_ | refine blk_alloc ?_ _)); exact BK10101.out) hb); have n1_ := Aside0.mk (below_step (by repeat (first | (with_reducible first | exact HB.out | apply below_alloc | apply pw_below_drewN | apply below_drew1 | refine below_set ?_ GE10101.out) | exact HB.out)) hb); have n2_ := Aside0.mk (hbox); have n3_ := Aside0.mk ((by rw [hg]; exact (below_size (by repeat (first | (with_reducible first | exact HB.out | apply below_alloc | apply pw_below_drewN | apply below_drew1 | refine below_set ?_ GE10101.out) | exact HB.out))) : w.heap.size ≤ gb10102)); have n4_ := Aside0.mk ((by rw [hg]; exact (below_size (by repeat (first | (with_reducible first | exact HB.out | apply below_alloc | apply pw_below_drewN | apply below_drew1 | refine below_set ?_ GE10101.out) | exact HB.out))) : w.heap.size ≤ gb10102)); have n5_ := Aside0.mk ((by rw [hg]; exact Nat.ne_of_lt (blk_lt (g := gb10101) (o := .cells #[.int .u32 a0_0, .int .i64 a0_1] 44 (0, 0)) (by (with_reducible repeat (first | refine blk_drewN ?_ _ | refine blk_drew ?_ | refine blk_alloc ?_ _)); exact BK10101.out)) : gb10101 ≠ gb10102)); have n6_ := Aside0.mk ((by rw [hg]; exact Nat.ne_of_gt (blk_lt (g := gb10101) (o := .cells #[.int .u32 a0_0, .int .i64 a0_1] 44 (0, 0)) (by (with_reducible repeat (first | refine blk_drewN ?_ _ | refine blk_drew ?_ | refine blk_alloc ?_ _)); exact BK10101.out)) : gb10102 ≠ gb10101)); clear BK10101; clear HB; have BK10101 := n0_; have HB := n1_; have BK10102 := n2_; have GW10102 := n3_; have GE10102 := n4_; have NB10101_10102 := n5_; have NB10102_10101 := n6_; clear n0_ n1_ n2_ n3_ n4_ n5_ n6_; clear hb hbox hg))
  have n0_ := Aside0.mk (blk_drew BK10101.out)
  have n1_ := Aside0.mk (blk_drew BK10102.out)
  have n2_ := Aside0.mk (below_drew1 HB.out)
  clear BK10101
  clear BK10102
  clear HB
  have BK10101 := n0_
  have BK10102 := n1_
  have HB := n2_
  clear n0_ n1_ n2_
  refine start_ (n := 8) (S := fun w' => w'.cell? ⟨gb10101, 0, none⟩ = some (.int .u32 a0_0) ∧ w'.cell? ⟨gb10101, 1, none⟩ = some (.int .i64 a0_1) ∧ w'.cell? ⟨gb10102, 0, none⟩ = some (.int .u32 a1_0) ∧ w'.cell? ⟨gb10102, 1, none⟩ = some (.int .i64 a1_1)) (ds := []) #[false, false, false, false, false, false, false, false] (by kernel_rfl) rfl rfl ⟨(blk_cell BK10101.out 0).trans rfl, (blk_cell BK10101.out 1).trans rfl, (blk_cell BK10102.out 0).trans rfl, (blk_cell BK10102.out 1).trans rfl⟩ (fun hHeld => ?_); refine with_tabW virgatelaw02_CidrCovers.tab1 virgatelaw02_CidrCovers.bits1 (fun HT_ HW_ => ?_)
  generalize w20.drew = w21 at BK10101 BK10102 HB hHeld ⊢
  refine take_ (i := 0) (N := some 7) (v := ?_) (a' := ?_) #[true, false, false, false, false, false, false, false] rfl rfl (take_ofW HT_.out HW_.out (by kernel_rfl)) (fun _ _ _ h => h) (Or.inl ⟨by rfl, ?_⟩) hHeld ?_ ?_
  rotate_left
  · rintro w' ⟨s0, s1, s2, s3⟩
    go_simp
    with_reducible rfl
  rotate_left
  · simp only [Act.put, List.setIfInBounds_toArray, List.set_cons_zero, List.set_cons_succ, i64_w, i32_w]
    rfl
  refine take_ (i := 2) (N := some 9) (v := ?_) (a' := ?_) #[true, false, true, false, false, false, false, false] rfl rfl (take_ofW HT_.out HW_.out (by kernel_rfl)) (fun _ _ _ h => h) (Or.inl ⟨by rfl, ?_⟩) hHeld ?_ ?_
  rotate_left
  · rintro w' ⟨s0, s1, s2, s3⟩
    go_simp
    with_reducible rfl
  rotate_left
  · simp only [Act.put, List.setIfInBounds_toArray, List.set_cons_zero, List.set_cons_succ, i64_w, i32_w]
    rfl
  refine join_ (σ := Nat × Nat) 2 #[true, true, true, true, true, true, false, false] (fun s_ => [(8, .agg #[.int .u32 a0_0, .int .i64 a0_1]), (10, .agg #[.int .u32 a1_0, .int .i64 a1_1]), (5, .pointer (some ⟨s_.1, 0, none⟩)), (6, .pointer (some ⟨s_.2, 0, none⟩))]) (fun s_ w' => (w'.cell? ⟨gb10101, 0, none⟩ = some (.int .u32 a0_0) ∧ w'.cell? ⟨gb10101, 1, none⟩ = some (.int .i64 a0_1) ∧ w'.cell? ⟨gb10102, 0, none⟩ = some (.int .u32 a1_0) ∧ w'.cell? ⟨gb10102, 1, none⟩ = some (.int .i64 a1_1)) ∧ (w'.heap[gb10101]? = some (.cells #[.int .u32 a0_0, .int .i64 a0_1] 44 (0, 0))) ∧ (w'.heap[gb10102]? = some (.cells #[.int .u32 a1_0, .int .i64 a1_1] 44 (0, 0))) ∧ (w'.heap[s_.1]? = some (.cells #[.int .u32 0, .int .i64 0] 46 (0, 0))) ∧ (w'.heap[s_.2]? = some (.cells #[.int .u32 0, .int .i64 0] 46 (0, 0))) ∧ (w.heap.size ≤ s_.1) ∧ (w.heap.size ≤ s_.1) ∧ (gb10101 ≠ s_.1) ∧ (s_.1 ≠ gb10101) ∧ (gb10102 ≠ s_.1) ∧ (s_.1 ≠ gb10102) ∧ (s_.2 ≠ s_.1) ∧ (s_.1 ≠ s_.2) ∧ (w.heap.size ≤ s_.2) ∧ (w.heap.size ≤ s_.2) ∧ (gb10101 ≠ s_.2) ∧ (s_.2 ≠ gb10101) ∧ (gb10102 ≠ s_.2) ∧ (s_.2 ≠ gb10102) ∧ (Below w.heap.size w w')) ?_ ?_
  rotate_left
  · intro hJ1_3_4_5
    refine join_ (σ := Nat) 3 #[true, true, true, true, true, false, false, false] (fun s_ => [(8, .agg #[.int .u32 a0_0, .int .i64 a0_1]), (10, .agg #[.int .u32 a1_0, .int .i64 a1_1]), (5, .pointer (some ⟨s_, 0, none⟩))]) (fun s_ w' => (w'.cell? ⟨gb10101, 0, none⟩ = some (.int .u32 a0_0) ∧ w'.cell? ⟨gb10101, 1, none⟩ = some (.int .i64 a0_1) ∧ w'.cell? ⟨gb10102, 0, none⟩ = some (.int .u32 a1_0) ∧ w'.cell? ⟨gb10102, 1, none⟩ = some (.int .i64 a1_1)) ∧ (w'.heap[gb10101]? = some (.cells #[.int .u32 a0_0, .int .i64 a0_1] 44 (0, 0))) ∧ (w'.heap[gb10102]? = some (.cells #[.int .u32 a1_0, .int .i64 a1_1] 44 (0, 0))) ∧ (w'.heap[s_]? = some (.cells #[.int .u32 0, .int .i64 0] 46 (0, 0))) ∧ (w.heap.size ≤ s_) ∧ (w.heap.size ≤ s_) ∧ (gb10101 ≠ s_) ∧ (s_ ≠ gb10101) ∧ (gb10102 ≠ s_) ∧ (s_ ≠ gb10102) ∧ (Below w.heap.size w w')) ?_ ?_
    rotate_left
    · intro hJ1_3_4
      refine join_ (σ := Nat) 3 #[true, true, true, true, false, true, false, false] (fun s_ => [(8, .agg #[.int .u32 a0_0, .int .i64 a0_1]), (10, .agg #[.int .u32 a1_0, .int .i64 a1_1]), (6, .pointer (some ⟨s_, 0, none⟩))]) (fun s_ w' => (w'.cell? ⟨gb10101, 0, none⟩ = some (.int .u32 a0_0) ∧ w'.cell? ⟨gb10101, 1, none⟩ = some (.int .i64 a0_1) ∧ w'.cell? ⟨gb10102, 0, none⟩ = some (.int .u32 a1_0) ∧ w'.cell? ⟨gb10102, 1, none⟩ = some (.int .i64 a1_1)) ∧ (w'.heap[gb10101]? = some (.cells #[.int .u32 a0_0, .int .i64 a0_1] 44 (0, 0))) ∧ (w'.heap[gb10102]? = some (.cells #[.int .u32 a1_0, .int .i64 a1_1] 44 (0, 0))) ∧ (w'.heap[s_]? = some (.cells #[.int .u32 0, .int .i64 0] 46 (0, 0))) ∧ (w.heap.size ≤ s_) ∧ (w.heap.size ≤ s_) ∧ (gb10101 ≠ s_) ∧ (s_ ≠ gb10101) ∧ (gb10102 ≠ s_) ∧ (s_ ≠ gb10102) ∧ (Below w.heap.size w w')) ?_ ?_
      rotate_left
      · intro hJ1_3_5
        refine join_ (σ := Nat × Nat) 3 #[true, true, true, false, true, true, false, false] (fun s_ => [(8, .agg #[.int .u32 a0_0, .int .i64 a0_1]), (5, .pointer (some ⟨s_.1, 0, none⟩)), (6, .pointer (some ⟨s_.2, 0, none⟩))]) (fun s_ w' => (w'.cell? ⟨gb10101, 0, none⟩ = some (.int .u32 a0_0) ∧ w'.cell? ⟨gb10101, 1, none⟩ = some (.int .i64 a0_1) ∧ w'.cell? ⟨gb10102, 0, none⟩ = some (.int .u32 a1_0) ∧ w'.cell? ⟨gb10102, 1, none⟩ = some (.int .i64 a1_1)) ∧ (w'.heap[gb10101]? = some (.cells #[.int .u32 a0_0, .int .i64 a0_1] 44 (0, 0))) ∧ (w'.heap[gb10102]? = some (.cells #[.int .u32 a1_0, .int .i64 a1_1] 44 (0, 0))) ∧ (w'.heap[s_.1]? = some (.cells #[.int .u32 0, .int .i64 0] 46 (0, 0))) ∧ (w'.heap[s_.2]? = some (.cells #[.int .u32 0, .int .i64 0] 46 (0, 0))) ∧ (w.heap.size ≤ s_.1) ∧ (w.heap.size ≤ s_.1) ∧ (gb10101 ≠ s_.1) ∧ (s_.1 ≠ gb10101) ∧ (gb10102 ≠ s_.1) ∧ (s_.1 ≠ gb10102) ∧ (s_.2 ≠ s_.1) ∧ (s_.1 ≠ s_.2) ∧ (w.heap.size ≤ s_.2) ∧ (w.heap.size ≤ s_.2) ∧ (gb10101 ≠ s_.2) ∧ (s_.2 ≠ gb10101) ∧ (gb10102 ≠ s_.2) ∧ (s_.2 ≠ gb10102) ∧ (Below w.heap.size w w')) ?_ ?_
        rotate_left
        · intro hJ1_4_5
          refine join_ (σ := Unit) 4 #[true, true, true, true, false, false, false, false] (fun s_ => [(8, .agg #[.int .u32 a0_0, .int .i64 a0_1]), (10, .agg #[.int .u32 a1_0, .int .i64 a1_1])]) (fun s_ w' => (w'.cell? ⟨gb10101, 0, none⟩ = some (.int .u32 a0_0) ∧ w'.cell? ⟨gb10101, 1, none⟩ = some (.int .i64 a0_1) ∧ w'.cell? ⟨gb10102, 0, none⟩ = some (.int .u32 a1_0) ∧ w'.cell? ⟨gb10102, 1, none⟩ = some (.int .i64 a1_1)) ∧ (w'.heap[gb10101]? = some (.cells #[.int .u32 a0_0, .int .i64 a0_1] 44 (0, 0))) ∧ (w'.heap[gb10102]? = some (.cells #[.int .u32 a1_0, .int .i64 a1_1] 44 (0, 0))) ∧ (Below w.heap.size w w')) ?_ ?_
          rotate_left
          · intro hJ1_3
            refine join_ (σ := Nat) 4 #[true, true, true, false, true, false, false, false] (fun s_ => [(8, .agg #[.int .u32 a0_0, .int .i64 a0_1]), (5, .pointer (some ⟨s_, 0, none⟩))]) (fun s_ w' => (w'.cell? ⟨gb10101, 0, none⟩ = some (.int .u32 a0_0) ∧ w'.cell? ⟨gb10101, 1, none⟩ = some (.int .i64 a0_1) ∧ w'.cell? ⟨gb10102, 0, none⟩ = some (.int .u32 a1_0) ∧ w'.cell? ⟨gb10102, 1, none⟩ = some (.int .i64 a1_1)) ∧ (w'.heap[gb10101]? = some (.cells #[.int .u32 a0_0, .int .i64 a0_1] 44 (0, 0))) ∧ (w'.heap[gb10102]? = some (.cells #[.int .u32 a1_0, .int .i64 a1_1] 44 (0, 0))) ∧ (w'.heap[s_]? = some (.cells #[.int .u32 0, .int .i64 0] 46 (0, 0))) ∧ (w.heap.size ≤ s_) ∧ (w.heap.size ≤ s_) ∧ (gb10101 ≠ s_) ∧ (s_ ≠ gb10101) ∧ (gb10102 ≠ s_) ∧ (s_ ≠ gb10102) ∧ (Below w.heap.size w w')) ?_ ?_
            rotate_left
            · intro hJ1_4
              refine join_ (σ := Nat) 4 #[true, true, true, false, false, true, false, false] (fun s_ => [(8, .agg #[.int .u32 a0_0, .int .i64 a0_1]), (6, .pointer (some ⟨s_, 0, none⟩))]) (fun s_ w' => (w'.cell? ⟨gb10101, 0, none⟩ = some (.int .u32 a0_0) ∧ w'.cell? ⟨gb10101, 1, none⟩ = some (.int .i64 a0_1) ∧ w'.cell? ⟨gb10102, 0, none⟩ = some (.int .u32 a1_0) ∧ w'.cell? ⟨gb10102, 1, none⟩ = some (.int .i64 a1_1)) ∧ (w'.heap[gb10101]? = some (.cells #[.int .u32 a0_0, .int .i64 a0_1] 44 (0, 0))) ∧ (w'.heap[gb10102]? = some (.cells #[.int .u32 a1_0, .int .i64 a1_1] 44 (0, 0))) ∧ (w'.heap[s_]? = some (.cells #[.int .u32 0, .int .i64 0] 46 (0, 0))) ∧ (w.heap.size ≤ s_) ∧ (w.heap.size ≤ s_) ∧ (gb10101 ≠ s_) ∧ (s_ ≠ gb10101) ∧ (gb10102 ≠ s_) ∧ (s_ ≠ gb10102) ∧ (Below w.heap.size w w')) ?_ ?_
              rotate_left
              · intro hJ1_5
                refine join_ (σ := Nat × Nat) 4 #[true, false, true, false, true, true, false, false] (fun s_ => [(5, .pointer (some ⟨s_.1, 0, none⟩)), (6, .pointer (some ⟨s_.2, 0, none⟩))]) (fun s_ w' => (w'.cell? ⟨gb10101, 0, none⟩ = some (.int .u32 a0_0) ∧ w'.cell? ⟨gb10101, 1, none⟩ = some (.int .i64 a0_1) ∧ w'.cell? ⟨gb10102, 0, none⟩ = some (.int .u32 a1_0) ∧ w'.cell? ⟨gb10102, 1, none⟩ = some (.int .i64 a1_1)) ∧ (w'.heap[gb10101]? = some (.cells #[.int .u32 a0_0, .int .i64 a0_1] 44 (0, 0))) ∧ (w'.heap[gb10102]? = some (.cells #[.int .u32 a1_0, .int .i64 a1_1] 44 (0, 0))) ∧ (w'.heap[s_.1]? = some (.cells #[.int .u32 0, .int .i64 0] 46 (0, 0))) ∧ (w'.heap[s_.2]? = some (.cells #[.int .u32 0, .int .i64 0] 46 (0, 0))) ∧ (w.heap.size ≤ s_.1) ∧ (w.heap.size ≤ s_.1) ∧ (gb10101 ≠ s_.1) ∧ (s_.1 ≠ gb10101) ∧ (gb10102 ≠ s_.1) ∧ (s_.1 ≠ gb10102) ∧ (s_.2 ≠ s_.1) ∧ (s_.1 ≠ s_.2) ∧ (w.heap.size ≤ s_.2) ∧ (w.heap.size ≤ s_.2) ∧ (gb10101 ≠ s_.2) ∧ (s_.2 ≠ gb10101) ∧ (gb10102 ≠ s_.2) ∧ (s_.2 ≠ gb10102) ∧ (Below w.heap.size w w')) ?_ ?_
                rotate_left
                · intro hJ4_5
                  refine join_ (σ := Unit) 5 #[true, true, true, false, false, false, false, false] (fun s_ => [(8, .agg #[.int .u32 a0_0, .int .i64 a0_1])]) (fun s_ w' => (w'.cell? ⟨gb10101, 0, none⟩ = some (.int .u32 a0_0) ∧ w'.cell? ⟨gb10101, 1, none⟩ = some (.int .i64 a0_1) ∧ w'.cell? ⟨gb10102, 0, none⟩ = some (.int .u32 a1_0) ∧ w'.cell? ⟨gb10102, 1, none⟩ = some (.int .i64 a1_1)) ∧ (w'.heap[gb10101]? = some (.cells #[.int .u32 a0_0, .int .i64 a0_1] 44 (0, 0))) ∧ (w'.heap[gb10102]? = some (.cells #[.int .u32 a1_0, .int .i64 a1_1] 44 (0, 0))) ∧ (Below w.heap.size w w')) ?_ ?_
                  rotate_left
                  · intro hJ1
                    refine join_ (σ := Nat) 5 #[true, false, true, false, true, false, false, false] (fun s_ => [(5, .pointer (some ⟨s_, 0, none⟩))]) (fun s_ w' => (w'.cell? ⟨gb10101, 0, none⟩ = some (.int .u32 a0_0) ∧ w'.cell? ⟨gb10101, 1, none⟩ = some (.int .i64 a0_1) ∧ w'.cell? ⟨gb10102, 0, none⟩ = some (.int .u32 a1_0) ∧ w'.cell? ⟨gb10102, 1, none⟩ = some (.int .i64 a1_1)) ∧ (w'.heap[gb10101]? = some (.cells #[.int .u32 a0_0, .int .i64 a0_1] 44 (0, 0))) ∧ (w'.heap[gb10102]? = some (.cells #[.int .u32 a1_0, .int .i64 a1_1] 44 (0, 0))) ∧ (w'.heap[s_]? = some (.cells #[.int .u32 0, .int .i64 0] 46 (0, 0))) ∧ (w.heap.size ≤ s_) ∧ (w.heap.size ≤ s_) ∧ (gb10101 ≠ s_) ∧ (s_ ≠ gb10101) ∧ (gb10102 ≠ s_) ∧ (s_ ≠ gb10102) ∧ (Below w.heap.size w w')) ?_ ?_
                    rotate_left
                    · intro hJ4
                      refine join_ (σ := Nat) 5 #[true, false, true, false, false, true, false, false] (fun s_ => [(6, .pointer (some ⟨s_, 0, none⟩))]) (fun s_ w' => (w'.cell? ⟨gb10101, 0, none⟩ = some (.int .u32 a0_0) ∧ w'.cell? ⟨gb10101, 1, none⟩ = some (.int .i64 a0_1) ∧ w'.cell? ⟨gb10102, 0, none⟩ = some (.int .u32 a1_0) ∧ w'.cell? ⟨gb10102, 1, none⟩ = some (.int .i64 a1_1)) ∧ (w'.heap[gb10101]? = some (.cells #[.int .u32 a0_0, .int .i64 a0_1] 44 (0, 0))) ∧ (w'.heap[gb10102]? = some (.cells #[.int .u32 a1_0, .int .i64 a1_1] 44 (0, 0))) ∧ (w'.heap[s_]? = some (.cells #[.int .u32 0, .int .i64 0] 46 (0, 0))) ∧ (w.heap.size ≤ s_) ∧ (w.heap.size ≤ s_) ∧ (gb10101 ≠ s_) ∧ (s_ ≠ gb10101) ∧ (gb10102 ≠ s_) ∧ (s_ ≠ gb10102) ∧ (Below w.heap.size w w')) ?_ ?_
                      rotate_left
                      · intro hJ5
                        refine three_ (i := 1) (j := 4) (k := 5) (Ni := some 8) (Nj := some 5) (Nk := some 6) #[true, true, true, false, false, false, false, false] #[true, false, true, false, true, false, false, false] #[true, false, true, false, false, true, false, false] rfl rfl rfl rfl rfl rfl (three_of HT_.out (by kernel_rfl)) (by decide) (by decide) (by decide) (fun K hK => ?_) (fun K hK => ?_) (fun K hK => ?_)
                        · skip
                          refine goes_ Tryd.func33 (by kernel_rfl) rfl #[.agg #[.int .u32 a0_0, .int .i64 a0_1]] (by rfl) rfl rfl (by (try simp only [List.map_toArray, List.map_cons, List.map_nil]); first | done | rfl | (simp only [List.length_drop, List.length_take]; rfl)) ?_
                          with_reducible refine (virgatelaw02_Ours.calls a0_0 a0_1 a0_0 a0_1 _ A3.out).mono ?_
                          rintro e w22 ⟨rfl, hb⟩
                          refine ⟨_, rfl, ?_⟩
                          have n0_ := Aside0.mk (blk_below (g := gb10101) (o := .cells #[.int .u32 a0_0, .int .i64 a0_1] 44 (0, 0)) (by (with_reducible repeat (first | refine blk_drewN ?_ _ | refine blk_drew ?_ | refine blk_alloc ?_ _)); exact BK10101.out) hb)
                          have n1_ := Aside0.mk (blk_below (g := gb10102) (o := .cells #[.int .u32 a1_0, .int .i64 a1_1] 44 (0, 0)) (by (with_reducible repeat (first | refine blk_drewN ?_ _ | refine blk_drew ?_ | refine blk_alloc ?_ _)); exact BK10102.out) hb)
                          have n2_ := Aside0.mk (below_step (by repeat (first | (with_reducible first | exact HB.out | apply below_alloc | apply pw_below_drewN | apply below_drew1 | refine below_set ?_ GE10101.out | refine below_set ?_ GE10102.out) | exact HB.out)) hb)
                          clear BK10101
                          clear BK10102
                          clear HB
                          have BK10101 := n0_
                          have BK10102 := n1_
                          have HB := n2_
                          clear n0_ n1_ n2_
                          (try clear hb)
                          (try clear hb2)
                          (try clear hk)
                          (try clear hi)
                          refine hK.out _ _ ⟨(blk_cell BK10101.out 0).trans rfl, (blk_cell BK10101.out 1).trans rfl, (blk_cell BK10102.out 0).trans rfl, (blk_cell BK10102.out 1).trans rfl⟩ (fun hHeld => ?_)
                          clear hK K
                          refine norm_ (a' := ?_) ?_ ?_
                          rotate_left
                          · show Act.put _ (some 8) _ = _
                            simp only [Act.put, List.setIfInBounds_toArray, List.set_cons_zero, List.set_cons_succ, i64_w, i32_w]
                            rfl
                          exact norm_ (by first | (simp only [putAll, Act.put, List.setIfInBounds_toArray, List.set_cons_zero, List.set_cons_succ]; done) | (simp only [putAll, Act.put, List.setIfInBounds_toArray, List.set_cons_zero, List.set_cons_succ]; rfl)) (hJ1 () _ ⟨hHeld, (by (with_reducible repeat (first | refine blk_drewN ?_ _ | refine blk_drew ?_ | refine blk_alloc ?_ _)); exact BK10101.out), (by (with_reducible repeat (first | refine blk_drewN ?_ _ | refine blk_drew ?_ | refine blk_alloc ?_ _)); exact BK10102.out), (by repeat (first | (with_reducible first | exact HB.out | apply below_alloc | apply pw_below_drewN | apply below_drew1 | refine below_set ?_ GE10101.out | refine below_set ?_ GE10102.out) | exact HB.out))⟩)
                        · skip
                          refine box_step ?hg (N := 5) ?hd (cs := #[.int .u32 0, .int .i64 0]) (t := 46) ?hr ?_; (case hd => rfl); (case hg => rfl); (case hr => first | (go_simp; done) | (go_simp; rfl))
                          intro gb10107 hg w22 hbox hb
                          have n0_ := Aside0.mk (blk_below (g := gb10101) (o := .cells #[.int .u32 a0_0, .int .i64 a0_1] 44 (0, 0)) (by (with_reducible repeat (first | refine blk_drewN ?_ _ | refine blk_drew ?_ | refine blk_alloc ?_ _)); exact BK10101.out) hb)
                          have n1_ := Aside0.mk (blk_below (g := gb10102) (o := .cells #[.int .u32 a1_0, .int .i64 a1_1] 44 (0, 0)) (by (with_reducible repeat (first | refine blk_drewN ?_ _ | refine blk_drew ?_ | refine blk_alloc ?_ _)); exact BK10102.out) hb)
                          have n2_ := Aside0.mk (below_step (by repeat (first | (with_reducible first | exact HB.out | apply below_alloc | apply pw_below_drewN | apply below_drew1 | refine below_set ?_ GE10101.out | refine below_set ?_ GE10102.out) | exact HB.out)) hb)
                          have n3_ := Aside0.mk (hbox)
                          have n4_ := Aside0.mk ((by rw [hg]; exact (below_size (by repeat (first | (with_reducible first | exact HB.out | apply below_alloc | apply pw_below_drewN | apply below_drew1 | refine below_set ?_ GE10101.out | refine below_set ?_ GE10102.out) | exact HB.out))) : w.heap.size ≤ gb10107))
                          have n5_ := Aside0.mk ((by rw [hg]; exact (below_size (by repeat (first | (with_reducible first | exact HB.out | apply below_alloc | apply pw_below_drewN | apply below_drew1 | refine below_set ?_ GE10101.out | refine below_set ?_ GE10102.out) | exact HB.out))) : w.heap.size ≤ gb10107))
                          have n6_ := Aside0.mk ((by rw [hg]; exact Nat.ne_of_lt (blk_lt (g := gb10101) (o := .cells #[.int .u32 a0_0, .int .i64 a0_1] 44 (0, 0)) (by (with_reducible repeat (first | refine blk_drewN ?_ _ | refine blk_drew ?_ | refine blk_alloc ?_ _)); exact BK10101.out)) : gb10101 ≠ gb10107))
                          have n7_ := Aside0.mk ((by rw [hg]; exact Nat.ne_of_gt (blk_lt (g := gb10101) (o := .cells #[.int .u32 a0_0, .int .i64 a0_1] 44 (0, 0)) (by (with_reducible repeat (first | refine blk_drewN ?_ _ | refine blk_drew ?_ | refine blk_alloc ?_ _)); exact BK10101.out)) : gb10107 ≠ gb10101))
                          have n8_ := Aside0.mk ((by rw [hg]; exact Nat.ne_of_lt (blk_lt (g := gb10102) (o := .cells #[.int .u32 a1_0, .int .i64 a1_1] 44 (0, 0)) (by (with_reducible repeat (first | refine blk_drewN ?_ _ | refine blk_drew ?_ | refine blk_alloc ?_ _)); exact BK10102.out)) : gb10102 ≠ gb10107))
                          have n9_ := Aside0.mk ((by rw [hg]; exact Nat.ne_of_gt (blk_lt (g := gb10102) (o := .cells #[.int .u32 a1_0, .int .i64 a1_1] 44 (0, 0)) (by (with_reducible repeat (first | refine blk_drewN ?_ _ | refine blk_drew ?_ | refine blk_alloc ?_ _)); exact BK10102.out)) : gb10107 ≠ gb10102))
                          clear BK10101
                          clear BK10102
                          clear HB
                          have BK10101 := n0_
                          have BK10102 := n1_
                          have HB := n2_
                          have BK10107 := n3_
                          have GW10107 := n4_
                          have GE10107 := n5_
                          have NB10101_10107 := n6_
                          have NB10107_10101 := n7_
                          have NB10102_10107 := n8_
                          have NB10107_10102 := n9_
                          clear n0_ n1_ n2_ n3_ n4_ n5_ n6_ n7_ n8_ n9_
                          clear hb hbox hg
                          refine hK.out _ _ ⟨(blk_cell BK10101.out 0).trans rfl, (blk_cell BK10101.out 1).trans rfl, (blk_cell BK10102.out 0).trans rfl, (blk_cell BK10102.out 1).trans rfl⟩ (fun hHeld => ?_)
                          clear hK K
                          refine norm_ (a' := ?_) ?_ ?_
                          rotate_left
                          · show Act.put _ (some 5) _ = _
                            simp only [Act.put, List.setIfInBounds_toArray, List.set_cons_zero, List.set_cons_succ, i64_w, i32_w]
                            rfl
                          exact norm_ (by first | (simp only [putAll, Act.put, List.setIfInBounds_toArray, List.set_cons_zero, List.set_cons_succ]; done) | (simp only [putAll, Act.put, List.setIfInBounds_toArray, List.set_cons_zero, List.set_cons_succ]; rfl)) (hJ4 (gb10107) _ ⟨hHeld, (by (with_reducible repeat (first | refine blk_drewN ?_ _ | refine blk_drew ?_ | refine blk_alloc ?_ _)); exact BK10101.out), (by (with_reducible repeat (first | refine blk_drewN ?_ _ | refine blk_drew ?_ | refine blk_alloc ?_ _)); exact BK10102.out), (by (with_reducible repeat (first | refine blk_drewN ?_ _ | refine blk_drew ?_ | refine blk_alloc ?_ _)); exact BK10107.out), GW10107.out, GE10107.out, NB10101_10107.out, NB10107_10101.out, NB10102_10107.out, NB10107_10102.out, (by repeat (first | (with_reducible first | exact HB.out | apply below_alloc | apply pw_below_drewN | apply below_drew1 | refine below_set ?_ GE10101.out | refine below_set ?_ GE10102.out | refine below_set ?_ GE10107.out) | exact HB.out))⟩)
                        · skip
                          refine box_step ?hg (N := 6) ?hd (cs := #[.int .u32 0, .int .i64 0]) (t := 46) ?hr ?_; (case hd => rfl); (case hg => rfl); (case hr => first | (go_simp; done) | (go_simp; rfl))
                          intro gb10108 hg w22 hbox hb
                          have n0_ := Aside0.mk (blk_below (g := gb10101) (o := .cells #[.int .u32 a0_0, .int .i64 a0_1] 44 (0, 0)) (by (with_reducible repeat (first | refine blk_drewN ?_ _ | refine blk_drew ?_ | refine blk_alloc ?_ _)); exact BK10101.out) hb)
                          have n1_ := Aside0.mk (blk_below (g := gb10102) (o := .cells #[.int .u32 a1_0, .int .i64 a1_1] 44 (0, 0)) (by (with_reducible repeat (first | refine blk_drewN ?_ _ | refine blk_drew ?_ | refine blk_alloc ?_ _)); exact BK10102.out) hb)
                          have n2_ := Aside0.mk (below_step (by repeat (first | (with_reducible first | exact HB.out | apply below_alloc | apply pw_below_drewN | apply below_drew1 | refine below_set ?_ GE10101.out | refine below_set ?_ GE10102.out) | exact HB.out)) hb)
                          have n3_ := Aside0.mk (hbox)
                          have n4_ := Aside0.mk ((by rw [hg]; exact (below_size (by repeat (first | (with_reducible first | exact HB.out | apply below_alloc | apply pw_below_drewN | apply below_drew1 | refine below_set ?_ GE10101.out | refine below_set ?_ GE10102.out) | exact HB.out))) : w.heap.size ≤ gb10108))
                          have n5_ := Aside0.mk ((by rw [hg]; exact (below_size (by repeat (first | (with_reducible first | exact HB.out | apply below_alloc | apply pw_below_drewN | apply below_drew1 | refine below_set ?_ GE10101.out | refine below_set ?_ GE10102.out) | exact HB.out))) : w.heap.size ≤ gb10108))
                          have n6_ := Aside0.mk ((by rw [hg]; exact Nat.ne_of_lt (blk_lt (g := gb10101) (o := .cells #[.int .u32 a0_0, .int .i64 a0_1] 44 (0, 0)) (by (with_reducible repeat (first | refine blk_drewN ?_ _ | refine blk_drew ?_ | refine blk_alloc ?_ _)); exact BK10101.out)) : gb10101 ≠ gb10108))
                          have n7_ := Aside0.mk ((by rw [hg]; exact Nat.ne_of_gt (blk_lt (g := gb10101) (o := .cells #[.int .u32 a0_0, .int .i64 a0_1] 44 (0, 0)) (by (with_reducible repeat (first | refine blk_drewN ?_ _ | refine blk_drew ?_ | refine blk_alloc ?_ _)); exact BK10101.out)) : gb10108 ≠ gb10101))
                          have n8_ := Aside0.mk ((by rw [hg]; exact Nat.ne_of_lt (blk_lt (g := gb10102) (o := .cells #[.int .u32 a1_0, .int .i64 a1_1] 44 (0, 0)) (by (with_reducible repeat (first | refine blk_drewN ?_ _ | refine blk_drew ?_ | refine blk_alloc ?_ _)); exact BK10102.out)) : gb10102 ≠ gb10108))
                          have n9_ := Aside0.mk ((by rw [hg]; exact Nat.ne_of_gt (blk_lt (g := gb10102) (o := .cells #[.int .u32 a1_0, .int .i64 a1_1] 44 (0, 0)) (by (with_reducible repeat (first | refine blk_drewN ?_ _ | refine blk_drew ?_ | refine blk_alloc ?_ _)); exact BK10102.out)) : gb10108 ≠ gb10102))
                          clear BK10101
                          clear BK10102
                          clear HB
                          have BK10101 := n0_
                          have BK10102 := n1_
                          have HB := n2_
                          have BK10108 := n3_
                          have GW10108 := n4_
                          have GE10108 := n5_
                          have NB10101_10108 := n6_
                          have NB10108_10101 := n7_
                          have NB10102_10108 := n8_
                          have NB10108_10102 := n9_
                          clear n0_ n1_ n2_ n3_ n4_ n5_ n6_ n7_ n8_ n9_
                          clear hb hbox hg
                          refine hK.out _ _ ⟨(blk_cell BK10101.out 0).trans rfl, (blk_cell BK10101.out 1).trans rfl, (blk_cell BK10102.out 0).trans rfl, (blk_cell BK10102.out 1).trans rfl⟩ (fun hHeld => ?_)
                          clear hK K
                          refine norm_ (a' := ?_) ?_ ?_
                          rotate_left
                          · show Act.put _ (some 6) _ = _
                            simp only [Act.put, List.setIfInBounds_toArray, List.set_cons_zero, List.set_cons_succ, i64_w, i32_w]
                            rfl
                          exact norm_ (by first | (simp only [putAll, Act.put, List.setIfInBounds_toArray, List.set_cons_zero, List.set_cons_succ]; done) | (simp only [putAll, Act.put, List.setIfInBounds_toArray, List.set_cons_zero, List.set_cons_succ]; rfl)) (hJ5 (gb10108) _ ⟨hHeld, (by (with_reducible repeat (first | refine blk_drewN ?_ _ | refine blk_drew ?_ | refine blk_alloc ?_ _)); exact BK10101.out), (by (with_reducible repeat (first | refine blk_drewN ?_ _ | refine blk_drew ?_ | refine blk_alloc ?_ _)); exact BK10102.out), (by (with_reducible repeat (first | refine blk_drewN ?_ _ | refine blk_drew ?_ | refine blk_alloc ?_ _)); exact BK10108.out), GW10108.out, GE10108.out, NB10101_10108.out, NB10108_10101.out, NB10102_10108.out, NB10108_10102.out, (by repeat (first | (with_reducible first | exact HB.out | apply below_alloc | apply pw_below_drewN | apply below_drew1 | refine below_set ?_ GE10101.out | refine below_set ?_ GE10102.out | refine below_set ?_ GE10108.out) | exact HB.out))⟩)
                      · skip
                        rintro gb10108 w23 ⟨hS_, h0_, h1_, h2_, h3_, h4_, h5_, h6_, h7_, h8_, h9_⟩
                        have n0_ : Aside0 (w23.heap[gb10101]? = some (.cells #[.int .u32 a0_0, .int .i64 a0_1] 44 (0, 0))) := ⟨h0_⟩
                        have n1_ : Aside0 (w23.heap[gb10102]? = some (.cells #[.int .u32 a1_0, .int .i64 a1_1] 44 (0, 0))) := ⟨h1_⟩
                        have n2_ : Aside0 (w23.heap[gb10108]? = some (.cells #[.int .u32 0, .int .i64 0] 46 (0, 0))) := ⟨h2_⟩
                        have n3_ : Aside0 (w.heap.size ≤ gb10108) := ⟨h3_⟩
                        have n4_ : Aside0 (w.heap.size ≤ gb10108) := ⟨h4_⟩
                        have n5_ : Aside0 (gb10101 ≠ gb10108) := ⟨h5_⟩
                        have n6_ : Aside0 (gb10108 ≠ gb10101) := ⟨h6_⟩
                        have n7_ : Aside0 (gb10102 ≠ gb10108) := ⟨h7_⟩
                        have n8_ : Aside0 (gb10108 ≠ gb10102) := ⟨h8_⟩
                        have n9_ : Aside0 (Below w.heap.size w w23) := ⟨h9_⟩
                        clear BK10101
                        clear BK10102
                        clear HB
                        clear h0_ h1_ h2_ h3_ h4_ h5_ h6_ h7_ h8_ h9_
                        have BK10101 := n0_
                        have BK10102 := n1_
                        have BK10108 := n2_
                        have GW10108 := n3_
                        have GE10108 := n4_
                        have NB10101_10108 := n5_
                        have NB10108_10101 := n6_
                        have NB10102_10108 := n7_
                        have NB10108_10102 := n8_
                        have HB := n9_
                        clear n0_ n1_ n2_ n3_ n4_ n5_ n6_ n7_ n8_ n9_
                        have hHeld : w23.cell? ⟨gb10101, 0, none⟩ = some (.int .u32 a0_0) ∧ w23.cell? ⟨gb10101, 1, none⟩ = some (.int .i64 a0_1) ∧ w23.cell? ⟨gb10102, 0, none⟩ = some (.int .u32 a1_0) ∧ w23.cell? ⟨gb10102, 1, none⟩ = some (.int .i64 a1_1) := hS_
                        refine norm_ (a' := ?_) ?_ ?_
                        rotate_left
                        · simp only [putAll, Act.put, List.setIfInBounds_toArray, List.set_cons_zero, List.set_cons_succ]
                          rfl
                        refine two_ (i := 1) (j := 4) (Ni := some 8) (Nj := some 5) #[true, true, true, false, false, true, false, false] #[true, false, true, false, true, true, false, false] rfl rfl rfl rfl (two_of HT_.out (by kernel_rfl)) (by decide) (by decide) (fun K hK => ?_) (fun K hK => ?_)
                        · skip
                          refine goes_ Tryd.func33 (by kernel_rfl) rfl #[.agg #[.int .u32 a0_0, .int .i64 a0_1]] (by rfl) rfl rfl (by (try simp only [List.map_toArray, List.map_cons, List.map_nil]); first | done | rfl | (simp only [List.length_drop, List.length_take]; rfl)) ?_
                          with_reducible refine (virgatelaw02_Ours.calls a0_0 a0_1 a0_0 a0_1 _ A3.out).mono ?_
                          rintro e w24 ⟨rfl, hb⟩
                          refine ⟨_, rfl, ?_⟩
                          have n0_ := Aside0.mk (blk_below (g := gb10101) (o := .cells #[.int .u32 a0_0, .int .i64 a0_1] 44 (0, 0)) (by (with_reducible repeat (first | refine blk_drewN ?_ _ | refine blk_drew ?_ | refine blk_alloc ?_ _)); exact BK10101.out) hb)
                          have n1_ := Aside0.mk (blk_below (g := gb10102) (o := .cells #[.int .u32 a1_0, .int .i64 a1_1] 44 (0, 0)) (by (with_reducible repeat (first | refine blk_drewN ?_ _ | refine blk_drew ?_ | refine blk_alloc ?_ _)); exact BK10102.out) hb)
                          have n2_ := Aside0.mk (blk_below (g := gb10108) (o := .cells #[.int .u32 0, .int .i64 0] 46 (0, 0)) (by (with_reducible repeat (first | refine blk_drewN ?_ _ | refine blk_drew ?_ | refine blk_alloc ?_ _)); exact BK10108.out) hb)
                          have n3_ := Aside0.mk (below_step (by repeat (first | (with_reducible first | exact HB.out | apply below_alloc | apply pw_below_drewN | apply below_drew1 | refine below_set ?_ GE10101.out | refine below_set ?_ GE10102.out | refine below_set ?_ GE10108.out) | exact HB.out)) hb)
                          clear BK10101
                          clear BK10102
                          clear BK10108
                          clear HB
                          have BK10101 := n0_
                          have BK10102 := n1_
                          have BK10108 := n2_
                          have HB := n3_
                          clear n0_ n1_ n2_ n3_
                          (try clear hb)
                          (try clear hb2)
                          (try clear hk)
                          (try clear hi)
                          refine hK.out _ _ ⟨(blk_cell BK10101.out 0).trans rfl, (blk_cell BK10101.out 1).trans rfl, (blk_cell BK10102.out 0).trans rfl, (blk_cell BK10102.out 1).trans rfl⟩ (fun hHeld => ?_)
                          clear hK K
                          refine norm_ (a' := ?_) ?_ ?_
                          rotate_left
                          · show Act.put _ (some 8) _ = _
                            simp only [Act.put, List.setIfInBounds_toArray, List.set_cons_zero, List.set_cons_succ, i64_w, i32_w]
                            rfl
                          exact norm_ (by first | (simp only [putAll, Act.put, List.setIfInBounds_toArray, List.set_cons_zero, List.set_cons_succ]; done) | (simp only [putAll, Act.put, List.setIfInBounds_toArray, List.set_cons_zero, List.set_cons_succ]; rfl)) (hJ1_5 (gb10108) _ ⟨hHeld, (by (with_reducible repeat (first | refine blk_drewN ?_ _ | refine blk_drew ?_ | refine blk_alloc ?_ _)); exact BK10101.out), (by (with_reducible repeat (first | refine blk_drewN ?_ _ | refine blk_drew ?_ | refine blk_alloc ?_ _)); exact BK10102.out), (by (with_reducible repeat (first | refine blk_drewN ?_ _ | refine blk_drew ?_ | refine blk_alloc ?_ _)); exact BK10108.out), GW10108.out, GE10108.out, NB10101_10108.out, NB10108_10101.out, NB10102_10108.out, NB10108_10102.out, (by repeat (first | (with_reducible first | exact HB.out | apply below_alloc | apply pw_below_drewN | apply below_drew1 | refine below_set ?_ GE10101.out | refine below_set ?_ GE10102.out | refine below_set ?_ GE10108.out) | exact HB.out))⟩)
                        · skip
                          refine box_step ?hg (N := 5) ?hd (cs := #[.int .u32 0, .int .i64 0]) (t := 46) ?hr ?_; (case hd => rfl); (case hg => rfl); (case hr => first | (go_simp; done) | (go_simp; rfl))
                          intro gb10107 hg w24 hbox hb
                          have n0_ := Aside0.mk (blk_below (g := gb10101) (o := .cells #[.int .u32 a0_0, .int .i64 a0_1] 44 (0, 0)) (by (with_reducible repeat (first | refine blk_drewN ?_ _ | refine blk_drew ?_ | refine blk_alloc ?_ _)); exact BK10101.out) hb)
                          have n1_ := Aside0.mk (blk_below (g := gb10102) (o := .cells #[.int .u32 a1_0, .int .i64 a1_1] 44 (0, 0)) (by (with_reducible repeat (first | refine blk_drewN ?_ _ | refine blk_drew ?_ | refine blk_alloc ?_ _)); exact BK10102.out) hb)
                          have n2_ := Aside0.mk (blk_below (g := gb10108) (o := .cells #[.int .u32 0, .int .i64 0] 46 (0, 0)) (by (with_reducible repeat (first | refine blk_drewN ?_ _ | refine blk_drew ?_ | refine blk_alloc ?_ _)); exact BK10108.out) hb)
                          have n3_ := Aside0.mk (below_step (by repeat (first | (with_reducible first | exact HB.out | apply below_alloc | apply pw_below_drewN | apply below_drew1 | refine below_set ?_ GE10101.out | refine below_set ?_ GE10102.out | refine below_set ?_ GE10108.out) | exact HB.out)) hb)
                          have n4_ := Aside0.mk (hbox)
                          have n5_ := Aside0.mk ((by rw [hg]; exact (below_size (by repeat (first | (with_reducible first | exact HB.out | apply below_alloc | apply pw_below_drewN | apply below_drew1 | refine below_set ?_ GE10101.out | refine below_set ?_ GE10102.out | refine below_set ?_ GE10108.out) | exact HB.out))) : w.heap.size ≤ gb10107))
                          have n6_ := Aside0.mk ((by rw [hg]; exact (below_size (by repeat (first | (with_reducible first | exact HB.out | apply below_alloc | apply pw_below_drewN | apply below_drew1 | refine below_set ?_ GE10101.out | refine below_set ?_ GE10102.out | refine below_set ?_ GE10108.out) | exact HB.out))) : w.heap.size ≤ gb10107))
                          have n7_ := Aside0.mk ((by rw [hg]; exact Nat.ne_of_lt (blk_lt (g := gb10101) (o := .cells #[.int .u32 a0_0, .int .i64 a0_1] 44 (0, 0)) (by (with_reducible repeat (first | refine blk_drewN ?_ _ | refine blk_drew ?_ | refine blk_alloc ?_ _)); exact BK10101.out)) : gb10101 ≠ gb10107))
                          have n8_ := Aside0.mk ((by rw [hg]; exact Nat.ne_of_gt (blk_lt (g := gb10101) (o := .cells #[.int .u32 a0_0, .int .i64 a0_1] 44 (0, 0)) (by (with_reducible repeat (first | refine blk_drewN ?_ _ | refine blk_drew ?_ | refine blk_alloc ?_ _)); exact BK10101.out)) : gb10107 ≠ gb10101))
                          have n9_ := Aside0.mk ((by rw [hg]; exact Nat.ne_of_lt (blk_lt (g := gb10102) (o := .cells #[.int .u32 a1_0, .int .i64 a1_1] 44 (0, 0)) (by (with_reducible repeat (first | refine blk_drewN ?_ _ | refine blk_drew ?_ | refine blk_alloc ?_ _)); exact BK10102.out)) : gb10102 ≠ gb10107))
                          have n10_ := Aside0.mk ((by rw [hg]; exact Nat.ne_of_gt (blk_lt (g := gb10102) (o := .cells #[.int .u32 a1_0, .int .i64 a1_1] 44 (0, 0)) (by (with_reducible repeat (first | refine blk_drewN ?_ _ | refine blk_drew ?_ | refine blk_alloc ?_ _)); exact BK10102.out)) : gb10107 ≠ gb10102))
                          have n11_ := Aside0.mk ((by rw [hg]; exact Nat.ne_of_lt (blk_lt (g := gb10108) (o := .cells #[.int .u32 0, .int .i64 0] 46 (0, 0)) (by (with_reducible repeat (first | refine blk_drewN ?_ _ | refine blk_drew ?_ | refine blk_alloc ?_ _)); exact BK10108.out)) : gb10108 ≠ gb10107))
                          have n12_ := Aside0.mk ((by rw [hg]; exact Nat.ne_of_gt (blk_lt (g := gb10108) (o := .cells #[.int .u32 0, .int .i64 0] 46 (0, 0)) (by (with_reducible repeat (first | refine blk_drewN ?_ _ | refine blk_drew ?_ | refine blk_alloc ?_ _)); exact BK10108.out)) : gb10107 ≠ gb10108))
                          clear BK10101
                          clear BK10102
                          clear BK10108
                          clear HB
                          have BK10101 := n0_
                          have BK10102 := n1_
                          have BK10108 := n2_
                          have HB := n3_
                          have BK10107 := n4_
                          have GW10107 := n5_
                          have GE10107 := n6_
                          have NB10101_10107 := n7_
                          have NB10107_10101 := n8_
                          have NB10102_10107 := n9_
                          have NB10107_10102 := n10_
                          have NB10108_10107 := n11_
                          have NB10107_10108 := n12_
                          clear n0_ n1_ n2_ n3_ n4_ n5_ n6_ n7_ n8_ n9_ n10_ n11_ n12_
                          clear hb hbox hg
                          refine hK.out _ _ ⟨(blk_cell BK10101.out 0).trans rfl, (blk_cell BK10101.out 1).trans rfl, (blk_cell BK10102.out 0).trans rfl, (blk_cell BK10102.out 1).trans rfl⟩ (fun hHeld => ?_)
                          clear hK K
                          refine norm_ (a' := ?_) ?_ ?_
                          rotate_left
                          · show Act.put _ (some 5) _ = _
                            simp only [Act.put, List.setIfInBounds_toArray, List.set_cons_zero, List.set_cons_succ, i64_w, i32_w]
                            rfl
                          exact norm_ (by first | (simp only [putAll, Act.put, List.setIfInBounds_toArray, List.set_cons_zero, List.set_cons_succ]; done) | (simp only [putAll, Act.put, List.setIfInBounds_toArray, List.set_cons_zero, List.set_cons_succ]; rfl)) (hJ4_5 (gb10107, gb10108) _ ⟨hHeld, (by (with_reducible repeat (first | refine blk_drewN ?_ _ | refine blk_drew ?_ | refine blk_alloc ?_ _)); exact BK10101.out), (by (with_reducible repeat (first | refine blk_drewN ?_ _ | refine blk_drew ?_ | refine blk_alloc ?_ _)); exact BK10102.out), (by (with_reducible repeat (first | refine blk_drewN ?_ _ | refine blk_drew ?_ | refine blk_alloc ?_ _)); exact BK10107.out), (by (with_reducible repeat (first | refine blk_drewN ?_ _ | refine blk_drew ?_ | refine blk_alloc ?_ _)); exact BK10108.out), GW10107.out, GE10107.out, NB10101_10107.out, NB10107_10101.out, NB10102_10107.out, NB10107_10102.out, NB10108_10107.out, NB10107_10108.out, GW10108.out, GE10108.out, NB10101_10108.out, NB10108_10101.out, NB10102_10108.out, NB10108_10102.out, (by repeat (first | (with_reducible first | exact HB.out | apply below_alloc | apply pw_below_drewN | apply below_drew1 | refine below_set ?_ GE10101.out | refine below_set ?_ GE10102.out | refine below_set ?_ GE10108.out | refine below_set ?_ GE10107.out) | exact HB.out))⟩)
                    · skip
                      rintro gb10107 w23 ⟨hS_, h0_, h1_, h2_, h3_, h4_, h5_, h6_, h7_, h8_, h9_⟩
                      have n0_ : Aside0 (w23.heap[gb10101]? = some (.cells #[.int .u32 a0_0, .int .i64 a0_1] 44 (0, 0))) := ⟨h0_⟩
                      have n1_ : Aside0 (w23.heap[gb10102]? = some (.cells #[.int .u32 a1_0, .int .i64 a1_1] 44 (0, 0))) := ⟨h1_⟩
                      have n2_ : Aside0 (w23.heap[gb10107]? = some (.cells #[.int .u32 0, .int .i64 0] 46 (0, 0))) := ⟨h2_⟩
                      have n3_ : Aside0 (w.heap.size ≤ gb10107) := ⟨h3_⟩
                      have n4_ : Aside0 (w.heap.size ≤ gb10107) := ⟨h4_⟩
                      have n5_ : Aside0 (gb10101 ≠ gb10107) := ⟨h5_⟩
                      have n6_ : Aside0 (gb10107 ≠ gb10101) := ⟨h6_⟩
                      have n7_ : Aside0 (gb10102 ≠ gb10107) := ⟨h7_⟩
                      have n8_ : Aside0 (gb10107 ≠ gb10102) := ⟨h8_⟩
                      have n9_ : Aside0 (Below w.heap.size w w23) := ⟨h9_⟩
                      clear BK10101
                      clear BK10102
                      clear HB
                      clear h0_ h1_ h2_ h3_ h4_ h5_ h6_ h7_ h8_ h9_
                      have BK10101 := n0_
                      have BK10102 := n1_
                      have BK10107 := n2_
                      have GW10107 := n3_
                      have GE10107 := n4_
                      have NB10101_10107 := n5_
                      have NB10107_10101 := n6_
                      have NB10102_10107 := n7_
                      have NB10107_10102 := n8_
                      have HB := n9_
                      clear n0_ n1_ n2_ n3_ n4_ n5_ n6_ n7_ n8_ n9_
                      have hHeld : w23.cell? ⟨gb10101, 0, none⟩ = some (.int .u32 a0_0) ∧ w23.cell? ⟨gb10101, 1, none⟩ = some (.int .i64 a0_1) ∧ w23.cell? ⟨gb10102, 0, none⟩ = some (.int .u32 a1_0) ∧ w23.cell? ⟨gb10102, 1, none⟩ = some (.int .i64 a1_1) := hS_
                      refine norm_ (a' := ?_) ?_ ?_
                      rotate_left
                      · simp only [putAll, Act.put, List.setIfInBounds_toArray, List.set_cons_zero, List.set_cons_succ]
                        rfl
                      refine two_ (i := 1) (j := 5) (Ni := some 8) (Nj := some 6) #[true, true, true, false, true, false, false, false] #[true, false, true, false, true, true, false, false] rfl rfl rfl rfl (two_of HT_.out (by kernel_rfl)) (by decide) (by decide) (fun K hK => ?_) (fun K hK => ?_)
                      · skip
                        refine goes_ Tryd.func33 (by kernel_rfl) rfl #[.agg #[.int .u32 a0_0, .int .i64 a0_1]] (by rfl) rfl rfl (by (try simp only [List.map_toArray, List.map_cons, List.map_nil]); first | done | rfl | (simp only [List.length_drop, List.length_take]; rfl)) ?_
                        with_reducible refine (virgatelaw02_Ours.calls a0_0 a0_1 a0_0 a0_1 _ A3.out).mono ?_
                        rintro e w24 ⟨rfl, hb⟩
                        refine ⟨_, rfl, ?_⟩
                        have n0_ := Aside0.mk (blk_below (g := gb10101) (o := .cells #[.int .u32 a0_0, .int .i64 a0_1] 44 (0, 0)) (by (with_reducible repeat (first | refine blk_drewN ?_ _ | refine blk_drew ?_ | refine blk_alloc ?_ _)); exact BK10101.out) hb)
                        have n1_ := Aside0.mk (blk_below (g := gb10102) (o := .cells #[.int .u32 a1_0, .int .i64 a1_1] 44 (0, 0)) (by (with_reducible repeat (first | refine blk_drewN ?_ _ | refine blk_drew ?_ | refine blk_alloc ?_ _)); exact BK10102.out) hb)
                        have n2_ := Aside0.mk (blk_below (g := gb10107) (o := .cells #[.int .u32 0, .int .i64 0] 46 (0, 0)) (by (with_reducible repeat (first | refine blk_drewN ?_ _ | refine blk_drew ?_ | refine blk_alloc ?_ _)); exact BK10107.out) hb)
                        have n3_ := Aside0.mk (below_step (by repeat (first | (with_reducible first | exact HB.out | apply below_alloc | apply pw_below_drewN | apply below_drew1 | refine below_set ?_ GE10101.out | refine below_set ?_ GE10102.out | refine below_set ?_ GE10107.out) | exact HB.out)) hb)
                        clear BK10101
                        clear BK10102
                        clear BK10107
                        clear HB
                        have BK10101 := n0_
                        have BK10102 := n1_
                        have BK10107 := n2_
                        have HB := n3_
                        clear n0_ n1_ n2_ n3_
                        (try clear hb)
                        (try clear hb2)
                        (try clear hk)
                        (try clear hi)
                        refine hK.out _ _ ⟨(blk_cell BK10101.out 0).trans rfl, (blk_cell BK10101.out 1).trans rfl, (blk_cell BK10102.out 0).trans rfl, (blk_cell BK10102.out 1).trans rfl⟩ (fun hHeld => ?_)
                        clear hK K
                        refine norm_ (a' := ?_) ?_ ?_
                        rotate_left
                        · show Act.put _ (some 8) _ = _
                          simp only [Act.put, List.setIfInBounds_toArray, List.set_cons_zero, List.set_cons_succ, i64_w, i32_w]
                          rfl
                        exact norm_ (by first | (simp only [putAll, Act.put, List.setIfInBounds_toArray, List.set_cons_zero, List.set_cons_succ]; done) | (simp only [putAll, Act.put, List.setIfInBounds_toArray, List.set_cons_zero, List.set_cons_succ]; rfl)) (hJ1_4 (gb10107) _ ⟨hHeld, (by (with_reducible repeat (first | refine blk_drewN ?_ _ | refine blk_drew ?_ | refine blk_alloc ?_ _)); exact BK10101.out), (by (with_reducible repeat (first | refine blk_drewN ?_ _ | refine blk_drew ?_ | refine blk_alloc ?_ _)); exact BK10102.out), (by (with_reducible repeat (first | refine blk_drewN ?_ _ | refine blk_drew ?_ | refine blk_alloc ?_ _)); exact BK10107.out), GW10107.out, GE10107.out, NB10101_10107.out, NB10107_10101.out, NB10102_10107.out, NB10107_10102.out, (by repeat (first | (with_reducible first | exact HB.out | apply below_alloc | apply pw_below_drewN | apply below_drew1 | refine below_set ?_ GE10101.out | refine below_set ?_ GE10102.out | refine below_set ?_ GE10107.out) | exact HB.out))⟩)
                      · skip
                        refine box_step ?hg (N := 6) ?hd (cs := #[.int .u32 0, .int .i64 0]) (t := 46) ?hr ?_; (case hd => rfl); (case hg => rfl); (case hr => first | (go_simp; done) | (go_simp; rfl))
                        intro gb10108 hg w24 hbox hb
                        have n0_ := Aside0.mk (blk_below (g := gb10101) (o := .cells #[.int .u32 a0_0, .int .i64 a0_1] 44 (0, 0)) (by (with_reducible repeat (first | refine blk_drewN ?_ _ | refine blk_drew ?_ | refine blk_alloc ?_ _)); exact BK10101.out) hb)
                        have n1_ := Aside0.mk (blk_below (g := gb10102) (o := .cells #[.int .u32 a1_0, .int .i64 a1_1] 44 (0, 0)) (by (with_reducible repeat (first | refine blk_drewN ?_ _ | refine blk_drew ?_ | refine blk_alloc ?_ _)); exact BK10102.out) hb)
                        have n2_ := Aside0.mk (blk_below (g := gb10107) (o := .cells #[.int .u32 0, .int .i64 0] 46 (0, 0)) (by (with_reducible repeat (first | refine blk_drewN ?_ _ | refine blk_drew ?_ | refine blk_alloc ?_ _)); exact BK10107.out) hb)
                        have n3_ := Aside0.mk (below_step (by repeat (first | (with_reducible first | exact HB.out | apply below_alloc | apply pw_below_drewN | apply below_drew1 | refine below_set ?_ GE10101.out | refine below_set ?_ GE10102.out | refine below_set ?_ GE10107.out) | exact HB.out)) hb)
                        have n4_ := Aside0.mk (hbox)
                        have n5_ := Aside0.mk ((by rw [hg]; exact (below_size (by repeat (first | (with_reducible first | exact HB.out | apply below_alloc | apply pw_below_drewN | apply below_drew1 | refine below_set ?_ GE10101.out | refine below_set ?_ GE10102.out | refine below_set ?_ GE10107.out) | exact HB.out))) : w.heap.size ≤ gb10108))
                        have n6_ := Aside0.mk ((by rw [hg]; exact (below_size (by repeat (first | (with_reducible first | exact HB.out | apply below_alloc | apply pw_below_drewN | apply below_drew1 | refine below_set ?_ GE10101.out | refine below_set ?_ GE10102.out | refine below_set ?_ GE10107.out) | exact HB.out))) : w.heap.size ≤ gb10108))
                        have n7_ := Aside0.mk ((by rw [hg]; exact Nat.ne_of_lt (blk_lt (g := gb10101) (o := .cells #[.int .u32 a0_0, .int .i64 a0_1] 44 (0, 0)) (by (with_reducible repeat (first | refine blk_drewN ?_ _ | refine blk_drew ?_ | refine blk_alloc ?_ _)); exact BK10101.out)) : gb10101 ≠ gb10108))
                        have n8_ := Aside0.mk ((by rw [hg]; exact Nat.ne_of_gt (blk_lt (g := gb10101) (o := .cells #[.int .u32 a0_0, .int .i64 a0_1] 44 (0, 0)) (by (with_reducible repeat (first | refine blk_drewN ?_ _ | refine blk_drew ?_ | refine blk_alloc ?_ _)); exact BK10101.out)) : gb10108 ≠ gb10101))
                        have n9_ := Aside0.mk ((by rw [hg]; exact Nat.ne_of_lt (blk_lt (g := gb10102) (o := .cells #[.int .u32 a1_0, .int .i64 a1_1] 44 (0, 0)) (by (with_reducible repeat (first | refine blk_drewN ?_ _ | refine blk_drew ?_ | refine blk_alloc ?_ _)); exact BK10102.out)) : gb10102 ≠ gb10108))
                        have n10_ := Aside0.mk ((by rw [hg]; exact Nat.ne_of_gt (blk_lt (g := gb10102) (o := .cells #[.int .u32 a1_0, .int .i64 a1_1] 44 (0, 0)) (by (with_reducible repeat (first | refine blk_drewN ?_ _ | refine blk_drew ?_ | refine blk_alloc ?_ _)); exact BK10102.out)) : gb10108 ≠ gb10102))
                        have n11_ := Aside0.mk ((by rw [hg]; exact Nat.ne_of_lt (blk_lt (g := gb10107) (o := .cells #[.int .u32 0, .int .i64 0] 46 (0, 0)) (by (with_reducible repeat (first | refine blk_drewN ?_ _ | refine blk_drew ?_ | refine blk_alloc ?_ _)); exact BK10107.out)) : gb10107 ≠ gb10108))
                        have n12_ := Aside0.mk ((by rw [hg]; exact Nat.ne_of_gt (blk_lt (g := gb10107) (o := .cells #[.int .u32 0, .int .i64 0] 46 (0, 0)) (by (with_reducible repeat (first | refine blk_drewN ?_ _ | refine blk_drew ?_ | refine blk_alloc ?_ _)); exact BK10107.out)) : gb10108 ≠ gb10107))
                        clear BK10101
                        clear BK10102
                        clear BK10107
                        clear HB
                        have BK10101 := n0_
                        have BK10102 := n1_
                        have BK10107 := n2_
                        have HB := n3_
                        have BK10108 := n4_
                        have GW10108 := n5_
                        have GE10108 := n6_
                        have NB10101_10108 := n7_
                        have NB10108_10101 := n8_
                        have NB10102_10108 := n9_
                        have NB10108_10102 := n10_
                        have NB10107_10108 := n11_
                        have NB10108_10107 := n12_
                        clear n0_ n1_ n2_ n3_ n4_ n5_ n6_ n7_ n8_ n9_ n10_ n11_ n12_
                        clear hb hbox hg
                        refine hK.out _ _ ⟨(blk_cell BK10101.out 0).trans rfl, (blk_cell BK10101.out 1).trans rfl, (blk_cell BK10102.out 0).trans rfl, (blk_cell BK10102.out 1).trans rfl⟩ (fun hHeld => ?_)
                        clear hK K
                        refine norm_ (a' := ?_) ?_ ?_
                        rotate_left
                        · show Act.put _ (some 6) _ = _
                          simp only [Act.put, List.setIfInBounds_toArray, List.set_cons_zero, List.set_cons_succ, i64_w, i32_w]
                          rfl
                        exact norm_ (by first | (simp only [putAll, Act.put, List.setIfInBounds_toArray, List.set_cons_zero, List.set_cons_succ]; done) | (simp only [putAll, Act.put, List.setIfInBounds_toArray, List.set_cons_zero, List.set_cons_succ]; rfl)) (hJ4_5 (gb10107, gb10108) _ ⟨hHeld, (by (with_reducible repeat (first | refine blk_drewN ?_ _ | refine blk_drew ?_ | refine blk_alloc ?_ _)); exact BK10101.out), (by (with_reducible repeat (first | refine blk_drewN ?_ _ | refine blk_drew ?_ | refine blk_alloc ?_ _)); exact BK10102.out), (by (with_reducible repeat (first | refine blk_drewN ?_ _ | refine blk_drew ?_ | refine blk_alloc ?_ _)); exact BK10107.out), (by (with_reducible repeat (first | refine blk_drewN ?_ _ | refine blk_drew ?_ | refine blk_alloc ?_ _)); exact BK10108.out), GW10107.out, GE10107.out, NB10101_10107.out, NB10107_10101.out, NB10102_10107.out, NB10107_10102.out, NB10108_10107.out, NB10107_10108.out, GW10108.out, GE10108.out, NB10101_10108.out, NB10108_10101.out, NB10102_10108.out, NB10108_10102.out, (by repeat (first | (with_reducible first | exact HB.out | apply below_alloc | apply pw_below_drewN | apply below_drew1 | refine below_set ?_ GE10101.out | refine below_set ?_ GE10102.out | refine below_set ?_ GE10107.out | refine below_set ?_ GE10108.out) | exact HB.out))⟩)
                  · skip
                    rintro _ w23 ⟨hS_, h0_, h1_, h2_⟩
                    have n0_ : Aside0 (w23.heap[gb10101]? = some (.cells #[.int .u32 a0_0, .int .i64 a0_1] 44 (0, 0))) := ⟨h0_⟩
                    have n1_ : Aside0 (w23.heap[gb10102]? = some (.cells #[.int .u32 a1_0, .int .i64 a1_1] 44 (0, 0))) := ⟨h1_⟩
                    have n2_ : Aside0 (Below w.heap.size w w23) := ⟨h2_⟩
                    clear BK10101
                    clear BK10102
                    clear HB
                    clear h0_ h1_ h2_
                    have BK10101 := n0_
                    have BK10102 := n1_
                    have HB := n2_
                    clear n0_ n1_ n2_
                    have hHeld : w23.cell? ⟨gb10101, 0, none⟩ = some (.int .u32 a0_0) ∧ w23.cell? ⟨gb10101, 1, none⟩ = some (.int .i64 a0_1) ∧ w23.cell? ⟨gb10102, 0, none⟩ = some (.int .u32 a1_0) ∧ w23.cell? ⟨gb10102, 1, none⟩ = some (.int .i64 a1_1) := hS_
                    refine norm_ (a' := ?_) ?_ ?_
                    rotate_left
                    · simp only [putAll, Act.put, List.setIfInBounds_toArray, List.set_cons_zero, List.set_cons_succ]
                      rfl
                    refine three_ (i := 3) (j := 4) (k := 5) (Ni := some 10) (Nj := some 5) (Nk := some 6) #[true, true, true, true, false, false, false, false] #[true, true, true, false, true, false, false, false] #[true, true, true, false, false, true, false, false] rfl rfl rfl rfl rfl rfl (three_of HT_.out (by kernel_rfl)) (by decide) (by decide) (by decide) (fun K hK => ?_) (fun K hK => ?_) (fun K hK => ?_)
                    · skip
                      refine goes_ Tryd.func33 (by kernel_rfl) rfl #[.agg #[.int .u32 a1_0, .int .i64 a1_1]] (by rfl) rfl rfl (by (try simp only [List.map_toArray, List.map_cons, List.map_nil]); first | done | rfl | (simp only [List.length_drop, List.length_take]; rfl)) ?_
                      with_reducible refine (virgatelaw02_Ours.calls a1_0 a1_1 a1_0 a1_1 _ A4.out).mono ?_
                      rintro e w24 ⟨rfl, hb⟩
                      refine ⟨_, rfl, ?_⟩
                      have n0_ := Aside0.mk (blk_below (g := gb10101) (o := .cells #[.int .u32 a0_0, .int .i64 a0_1] 44 (0, 0)) (by (with_reducible repeat (first | refine blk_drewN ?_ _ | refine blk_drew ?_ | refine blk_alloc ?_ _)); exact BK10101.out) hb)
                      have n1_ := Aside0.mk (blk_below (g := gb10102) (o := .cells #[.int .u32 a1_0, .int .i64 a1_1] 44 (0, 0)) (by (with_reducible repeat (first | refine blk_drewN ?_ _ | refine blk_drew ?_ | refine blk_alloc ?_ _)); exact BK10102.out) hb)
                      have n2_ := Aside0.mk (below_step (by repeat (first | (with_reducible first | exact HB.out | apply below_alloc | apply pw_below_drewN | apply below_drew1 | refine below_set ?_ GE10101.out | refine below_set ?_ GE10102.out) | exact HB.out)) hb)
                      clear BK10101
                      clear BK10102
                      clear HB
                      have BK10101 := n0_
                      have BK10102 := n1_
                      have HB := n2_
                      clear n0_ n1_ n2_
                      (try clear hb)
                      (try clear hb2)
                      (try clear hk)
                      (try clear hi)
                      refine hK.out _ _ ⟨(blk_cell BK10101.out 0).trans rfl, (blk_cell BK10101.out 1).trans rfl, (blk_cell BK10102.out 0).trans rfl, (blk_cell BK10102.out 1).trans rfl⟩ (fun hHeld => ?_)
                      clear hK K
                      refine norm_ (a' := ?_) ?_ ?_
                      rotate_left
                      · show Act.put _ (some 10) _ = _
                        simp only [Act.put, List.setIfInBounds_toArray, List.set_cons_zero, List.set_cons_succ, i64_w, i32_w]
                        rfl
                      exact norm_ (by first | (simp only [putAll, Act.put, List.setIfInBounds_toArray, List.set_cons_zero, List.set_cons_succ]; done) | (simp only [putAll, Act.put, List.setIfInBounds_toArray, List.set_cons_zero, List.set_cons_succ]; rfl)) (hJ1_3 () _ ⟨hHeld, (by (with_reducible repeat (first | refine blk_drewN ?_ _ | refine blk_drew ?_ | refine blk_alloc ?_ _)); exact BK10101.out), (by (with_reducible repeat (first | refine blk_drewN ?_ _ | refine blk_drew ?_ | refine blk_alloc ?_ _)); exact BK10102.out), (by repeat (first | (with_reducible first | exact HB.out | apply below_alloc | apply pw_below_drewN | apply below_drew1 | refine below_set ?_ GE10101.out | refine below_set ?_ GE10102.out) | exact HB.out))⟩)
                    · skip
                      refine box_step ?hg (N := 5) ?hd (cs := #[.int .u32 0, .int .i64 0]) (t := 46) ?hr ?_; (case hd => rfl); (case hg => rfl); (case hr => first | (go_simp; done) | (go_simp; rfl))
                      intro gb10107 hg w24 hbox hb
                      have n0_ := Aside0.mk (blk_below (g := gb10101) (o := .cells #[.int .u32 a0_0, .int .i64 a0_1] 44 (0, 0)) (by (with_reducible repeat (first | refine blk_drewN ?_ _ | refine blk_drew ?_ | refine blk_alloc ?_ _)); exact BK10101.out) hb)
                      have n1_ := Aside0.mk (blk_below (g := gb10102) (o := .cells #[.int .u32 a1_0, .int .i64 a1_1] 44 (0, 0)) (by (with_reducible repeat (first | refine blk_drewN ?_ _ | refine blk_drew ?_ | refine blk_alloc ?_ _)); exact BK10102.out) hb)
                      have n2_ := Aside0.mk (below_step (by repeat (first | (with_reducible first | exact HB.out | apply below_alloc | apply pw_below_drewN | apply below_drew1 | refine below_set ?_ GE10101.out | refine below_set ?_ GE10102.out) | exact HB.out)) hb)
                      have n3_ := Aside0.mk (hbox)
                      have n4_ := Aside0.mk ((by rw [hg]; exact (below_size (by repeat (first | (with_reducible first | exact HB.out | apply below_alloc | apply pw_below_drewN | apply below_drew1 | refine below_set ?_ GE10101.out | refine below_set ?_ GE10102.out) | exact HB.out))) : w.heap.size ≤ gb10107))
                      have n5_ := Aside0.mk ((by rw [hg]; exact (below_size (by repeat (first | (with_reducible first | exact HB.out | apply below_alloc | apply pw_below_drewN | apply below_drew1 | refine below_set ?_ GE10101.out | refine below_set ?_ GE10102.out) | exact HB.out))) : w.heap.size ≤ gb10107))
                      have n6_ := Aside0.mk ((by rw [hg]; exact Nat.ne_of_lt (blk_lt (g := gb10101) (o := .cells #[.int .u32 a0_0, .int .i64 a0_1] 44 (0, 0)) (by (with_reducible repeat (first | refine blk_drewN ?_ _ | refine blk_drew ?_ | refine blk_alloc ?_ _)); exact BK10101.out)) : gb10101 ≠ gb10107))
                      have n7_ := Aside0.mk ((by rw [hg]; exact Nat.ne_of_gt (blk_lt (g := gb10101) (o := .cells #[.int .u32 a0_0, .int .i64 a0_1] 44 (0, 0)) (by (with_reducible repeat (first | refine blk_drewN ?_ _ | refine blk_drew ?_ | refine blk_alloc ?_ _)); exact BK10101.out)) : gb10107 ≠ gb10101))
                      have n8_ := Aside0.mk ((by rw [hg]; exact Nat.ne_of_lt (blk_lt (g := gb10102) (o := .cells #[.int .u32 a1_0, .int .i64 a1_1] 44 (0, 0)) (by (with_reducible repeat (first | refine blk_drewN ?_ _ | refine blk_drew ?_ | refine blk_alloc ?_ _)); exact BK10102.out)) : gb10102 ≠ gb10107))
                      have n9_ := Aside0.mk ((by rw [hg]; exact Nat.ne_of_gt (blk_lt (g := gb10102) (o := .cells #[.int .u32 a1_0, .int .i64 a1_1] 44 (0, 0)) (by (with_reducible repeat (first | refine blk_drewN ?_ _ | refine blk_drew ?_ | refine blk_alloc ?_ _)); exact BK10102.out)) : gb10107 ≠ gb10102))
                      clear BK10101
                      clear BK10102
                      clear HB
                      have BK10101 := n0_
                      have BK10102 := n1_
                      have HB := n2_
                      have BK10107 := n3_
                      have GW10107 := n4_
                      have GE10107 := n5_
                      have NB10101_10107 := n6_
                      have NB10107_10101 := n7_
                      have NB10102_10107 := n8_
                      have NB10107_10102 := n9_
                      clear n0_ n1_ n2_ n3_ n4_ n5_ n6_ n7_ n8_ n9_
                      clear hb hbox hg
                      refine hK.out _ _ ⟨(blk_cell BK10101.out 0).trans rfl, (blk_cell BK10101.out 1).trans rfl, (blk_cell BK10102.out 0).trans rfl, (blk_cell BK10102.out 1).trans rfl⟩ (fun hHeld => ?_)
                      clear hK K
                      refine norm_ (a' := ?_) ?_ ?_
                      rotate_left
                      · show Act.put _ (some 5) _ = _
                        simp only [Act.put, List.setIfInBounds_toArray, List.set_cons_zero, List.set_cons_succ, i64_w, i32_w]
                        rfl
                      exact norm_ (by first | (simp only [putAll, Act.put, List.setIfInBounds_toArray, List.set_cons_zero, List.set_cons_succ]; done) | (simp only [putAll, Act.put, List.setIfInBounds_toArray, List.set_cons_zero, List.set_cons_succ]; rfl)) (hJ1_4 (gb10107) _ ⟨hHeld, (by (with_reducible repeat (first | refine blk_drewN ?_ _ | refine blk_drew ?_ | refine blk_alloc ?_ _)); exact BK10101.out), (by (with_reducible repeat (first | refine blk_drewN ?_ _ | refine blk_drew ?_ | refine blk_alloc ?_ _)); exact BK10102.out), (by (with_reducible repeat (first | refine blk_drewN ?_ _ | refine blk_drew ?_ | refine blk_alloc ?_ _)); exact BK10107.out), GW10107.out, GE10107.out, NB10101_10107.out, NB10107_10101.out, NB10102_10107.out, NB10107_10102.out, (by repeat (first | (with_reducible first | exact HB.out | apply below_alloc | apply pw_below_drewN | apply below_drew1 | refine below_set ?_ GE10101.out | refine below_set ?_ GE10102.out | refine below_set ?_ GE10107.out) | exact HB.out))⟩)
                    · skip
                      refine box_step ?hg (N := 6) ?hd (cs := #[.int .u32 0, .int .i64 0]) (t := 46) ?hr ?_; (case hd => rfl); (case hg => rfl); (case hr => first | (go_simp; done) | (go_simp; rfl))
                      intro gb10108 hg w24 hbox hb
                      have n0_ := Aside0.mk (blk_below (g := gb10101) (o := .cells #[.int .u32 a0_0, .int .i64 a0_1] 44 (0, 0)) (by (with_reducible repeat (first | refine blk_drewN ?_ _ | refine blk_drew ?_ | refine blk_alloc ?_ _)); exact BK10101.out) hb)
                      have n1_ := Aside0.mk (blk_below (g := gb10102) (o := .cells #[.int .u32 a1_0, .int .i64 a1_1] 44 (0, 0)) (by (with_reducible repeat (first | refine blk_drewN ?_ _ | refine blk_drew ?_ | refine blk_alloc ?_ _)); exact BK10102.out) hb)
                      have n2_ := Aside0.mk (below_step (by repeat (first | (with_reducible first | exact HB.out | apply below_alloc | apply pw_below_drewN | apply below_drew1 | refine below_set ?_ GE10101.out | refine below_set ?_ GE10102.out) | exact HB.out)) hb)
                      have n3_ := Aside0.mk (hbox)
                      have n4_ := Aside0.mk ((by rw [hg]; exact (below_size (by repeat (first | (with_reducible first | exact HB.out | apply below_alloc | apply pw_below_drewN | apply below_drew1 | refine below_set ?_ GE10101.out | refine below_set ?_ GE10102.out) | exact HB.out))) : w.heap.size ≤ gb10108))
                      have n5_ := Aside0.mk ((by rw [hg]; exact (below_size (by repeat (first | (with_reducible first | exact HB.out | apply below_alloc | apply pw_below_drewN | apply below_drew1 | refine below_set ?_ GE10101.out | refine below_set ?_ GE10102.out) | exact HB.out))) : w.heap.size ≤ gb10108))
                      have n6_ := Aside0.mk ((by rw [hg]; exact Nat.ne_of_lt (blk_lt (g := gb10101) (o := .cells #[.int .u32 a0_0, .int .i64 a0_1] 44 (0, 0)) (by (with_reducible repeat (first | refine blk_drewN ?_ _ | refine blk_drew ?_ | refine blk_alloc ?_ _)); exact BK10101.out)) : gb10101 ≠ gb10108))
                      have n7_ := Aside0.mk ((by rw [hg]; exact Nat.ne_of_gt (blk_lt (g := gb10101) (o := .cells #[.int .u32 a0_0, .int .i64 a0_1] 44 (0, 0)) (by (with_reducible repeat (first | refine blk_drewN ?_ _ | refine blk_drew ?_ | refine blk_alloc ?_ _)); exact BK10101.out)) : gb10108 ≠ gb10101))
                      have n8_ := Aside0.mk ((by rw [hg]; exact Nat.ne_of_lt (blk_lt (g := gb10102) (o := .cells #[.int .u32 a1_0, .int .i64 a1_1] 44 (0, 0)) (by (with_reducible repeat (first | refine blk_drewN ?_ _ | refine blk_drew ?_ | refine blk_alloc ?_ _)); exact BK10102.out)) : gb10102 ≠ gb10108))
                      have n9_ := Aside0.mk ((by rw [hg]; exact Nat.ne_of_gt (blk_lt (g := gb10102) (o := .cells #[.int .u32 a1_0, .int .i64 a1_1] 44 (0, 0)) (by (with_reducible repeat (first | refine blk_drewN ?_ _ | refine blk_drew ?_ | refine blk_alloc ?_ _)); exact BK10102.out)) : gb10108 ≠ gb10102))
                      clear BK10101
                      clear BK10102
                      clear HB
                      have BK10101 := n0_
                      have BK10102 := n1_
                      have HB := n2_
                      have BK10108 := n3_
                      have GW10108 := n4_
                      have GE10108 := n5_
                      have NB10101_10108 := n6_
                      have NB10108_10101 := n7_
                      have NB10102_10108 := n8_
                      have NB10108_10102 := n9_
                      clear n0_ n1_ n2_ n3_ n4_ n5_ n6_ n7_ n8_ n9_
                      clear hb hbox hg
                      refine hK.out _ _ ⟨(blk_cell BK10101.out 0).trans rfl, (blk_cell BK10101.out 1).trans rfl, (blk_cell BK10102.out 0).trans rfl, (blk_cell BK10102.out 1).trans rfl⟩ (fun hHeld => ?_)
                      clear hK K
                      refine norm_ (a' := ?_) ?_ ?_
                      rotate_left
                      · show Act.put _ (some 6) _ = _
                        simp only [Act.put, List.setIfInBounds_toArray, List.set_cons_zero, List.set_cons_succ, i64_w, i32_w]
                        rfl
                      exact norm_ (by first | (simp only [putAll, Act.put, List.setIfInBounds_toArray, List.set_cons_zero, List.set_cons_succ]; done) | (simp only [putAll, Act.put, List.setIfInBounds_toArray, List.set_cons_zero, List.set_cons_succ]; rfl)) (hJ1_5 (gb10108) _ ⟨hHeld, (by (with_reducible repeat (first | refine blk_drewN ?_ _ | refine blk_drew ?_ | refine blk_alloc ?_ _)); exact BK10101.out), (by (with_reducible repeat (first | refine blk_drewN ?_ _ | refine blk_drew ?_ | refine blk_alloc ?_ _)); exact BK10102.out), (by (with_reducible repeat (first | refine blk_drewN ?_ _ | refine blk_drew ?_ | refine blk_alloc ?_ _)); exact BK10108.out), GW10108.out, GE10108.out, NB10101_10108.out, NB10108_10101.out, NB10102_10108.out, NB10108_10102.out, (by repeat (first | (with_reducible first | exact HB.out | apply below_alloc | apply pw_below_drewN | apply below_drew1 | refine below_set ?_ GE10101.out | refine below_set ?_ GE10102.out | refine below_set ?_ GE10108.out) | exact HB.out))⟩)
                · skip
                  rintro ⟨gb10107, gb10108⟩ w24 ⟨hS_, h0_, h1_, h2_, h3_, h4_, h5_, h6_, h7_, h8_, h9_, h10_, h11_, h12_, h13_, h14_, h15_, h16_, h17_, h18_⟩
                  have n0_ : Aside0 (w24.heap[gb10101]? = some (.cells #[.int .u32 a0_0, .int .i64 a0_1] 44 (0, 0))) := ⟨h0_⟩
                  have n1_ : Aside0 (w24.heap[gb10102]? = some (.cells #[.int .u32 a1_0, .int .i64 a1_1] 44 (0, 0))) := ⟨h1_⟩
                  have n2_ : Aside0 (w24.heap[gb10107]? = some (.cells #[.int .u32 0, .int .i64 0] 46 (0, 0))) := ⟨h2_⟩
                  have n3_ : Aside0 (w24.heap[gb10108]? = some (.cells #[.int .u32 0, .int .i64 0] 46 (0, 0))) := ⟨h3_⟩
                  have n4_ : Aside0 (w.heap.size ≤ gb10107) := ⟨h4_⟩
                  have n5_ : Aside0 (w.heap.size ≤ gb10107) := ⟨h5_⟩
                  have n6_ : Aside0 (gb10101 ≠ gb10107) := ⟨h6_⟩
                  have n7_ : Aside0 (gb10107 ≠ gb10101) := ⟨h7_⟩
                  have n8_ : Aside0 (gb10102 ≠ gb10107) := ⟨h8_⟩
                  have n9_ : Aside0 (gb10107 ≠ gb10102) := ⟨h9_⟩
                  have n10_ : Aside0 (gb10108 ≠ gb10107) := ⟨h10_⟩
                  have n11_ : Aside0 (gb10107 ≠ gb10108) := ⟨h11_⟩
                  have n12_ : Aside0 (w.heap.size ≤ gb10108) := ⟨h12_⟩
                  have n13_ : Aside0 (w.heap.size ≤ gb10108) := ⟨h13_⟩
                  have n14_ : Aside0 (gb10101 ≠ gb10108) := ⟨h14_⟩
                  have n15_ : Aside0 (gb10108 ≠ gb10101) := ⟨h15_⟩
                  have n16_ : Aside0 (gb10102 ≠ gb10108) := ⟨h16_⟩
                  have n17_ : Aside0 (gb10108 ≠ gb10102) := ⟨h17_⟩
                  have n18_ : Aside0 (Below w.heap.size w w24) := ⟨h18_⟩
                  clear BK10101
                  clear BK10102
                  clear HB
                  clear h0_ h1_ h2_ h3_ h4_ h5_ h6_ h7_ h8_ h9_ h10_ h11_ h12_ h13_ h14_ h15_ h16_ h17_ h18_
                  have BK10101 := n0_
                  have BK10102 := n1_
                  have BK10107 := n2_
                  have BK10108 := n3_
                  have GW10107 := n4_
                  have GE10107 := n5_
                  have NB10101_10107 := n6_
                  have NB10107_10101 := n7_
                  have NB10102_10107 := n8_
                  have NB10107_10102 := n9_
                  have NB10108_10107 := n10_
                  have NB10107_10108 := n11_
                  have GW10108 := n12_
                  have GE10108 := n13_
                  have NB10101_10108 := n14_
                  have NB10108_10101 := n15_
                  have NB10102_10108 := n16_
                  have NB10108_10102 := n17_
                  have HB := n18_
                  clear n0_ n1_ n2_ n3_ n4_ n5_ n6_ n7_ n8_ n9_ n10_ n11_ n12_ n13_ n14_ n15_ n16_ n17_ n18_
                  have hHeld : w24.cell? ⟨gb10101, 0, none⟩ = some (.int .u32 a0_0) ∧ w24.cell? ⟨gb10101, 1, none⟩ = some (.int .i64 a0_1) ∧ w24.cell? ⟨gb10102, 0, none⟩ = some (.int .u32 a1_0) ∧ w24.cell? ⟨gb10102, 1, none⟩ = some (.int .i64 a1_1) := hS_
                  refine norm_ (a' := ?_) ?_ ?_
                  rotate_left
                  · simp only [putAll, Act.put, List.setIfInBounds_toArray, List.set_cons_zero, List.set_cons_succ]
                    rfl
                  refine one_ (i := 1) (N := some 8) #[true, true, true, false, true, true, false, false] rfl rfl (one_of HT_.out (by kernel_rfl)) (by decide) (fun K hK => ?_)
                  refine goes_ Tryd.func33 (by kernel_rfl) rfl #[.agg #[.int .u32 a0_0, .int .i64 a0_1]] (by rfl) rfl rfl (by (try simp only [List.map_toArray, List.map_cons, List.map_nil]); first | done | rfl | (simp only [List.length_drop, List.length_take]; rfl)) ?_
                  with_reducible refine (virgatelaw02_Ours.calls a0_0 a0_1 a0_0 a0_1 _ A3.out).mono ?_
                  rintro e w25 ⟨rfl, hb⟩
                  refine ⟨_, rfl, ?_⟩
                  have n0_ := Aside0.mk (blk_below (g := gb10101) (o := .cells #[.int .u32 a0_0, .int .i64 a0_1] 44 (0, 0)) (by (with_reducible repeat (first | refine blk_drewN ?_ _ | refine blk_drew ?_ | refine blk_alloc ?_ _)); exact BK10101.out) hb)
                  have n1_ := Aside0.mk (blk_below (g := gb10102) (o := .cells #[.int .u32 a1_0, .int .i64 a1_1] 44 (0, 0)) (by (with_reducible repeat (first | refine blk_drewN ?_ _ | refine blk_drew ?_ | refine blk_alloc ?_ _)); exact BK10102.out) hb)
                  have n2_ := Aside0.mk (blk_below (g := gb10107) (o := .cells #[.int .u32 0, .int .i64 0] 46 (0, 0)) (by (with_reducible repeat (first | refine blk_drewN ?_ _ | refine blk_drew ?_ | refine blk_alloc ?_ _)); exact BK10107.out) hb)
                  have n3_ := Aside0.mk (blk_below (g := gb10108) (o := .cells #[.int .u32 0, .int .i64 0] 46 (0, 0)) (by (with_reducible repeat (first | refine blk_drewN ?_ _ | refine blk_drew ?_ | refine blk_alloc ?_ _)); exact BK10108.out) hb)
                  have n4_ := Aside0.mk (below_step (by repeat (first | (with_reducible first | exact HB.out | apply below_alloc | apply pw_below_drewN | apply below_drew1 | refine below_set ?_ GE10101.out | refine below_set ?_ GE10102.out | refine below_set ?_ GE10107.out | refine below_set ?_ GE10108.out) | exact HB.out)) hb)
                  clear BK10101
                  clear BK10102
                  clear BK10107
                  clear BK10108
                  clear HB
                  have BK10101 := n0_
                  have BK10102 := n1_
                  have BK10107 := n2_
                  have BK10108 := n3_
                  have HB := n4_
                  clear n0_ n1_ n2_ n3_ n4_
                  (try clear hb)
                  (try clear hb2)
                  (try clear hk)
                  (try clear hi)
                  refine hK.out _ _ ⟨(blk_cell BK10101.out 0).trans rfl, (blk_cell BK10101.out 1).trans rfl, (blk_cell BK10102.out 0).trans rfl, (blk_cell BK10102.out 1).trans rfl⟩ (fun hHeld => ?_)
                  clear hK K
                  refine norm_ (a' := ?_) ?_ ?_
                  rotate_left
                  · show Act.put _ (some 8) _ = _
                    simp only [Act.put, List.setIfInBounds_toArray, List.set_cons_zero, List.set_cons_succ, i64_w, i32_w]
                    rfl
                  exact norm_ (by first | (simp only [putAll, Act.put, List.setIfInBounds_toArray, List.set_cons_zero, List.set_cons_succ]; done) | (simp only [putAll, Act.put, List.setIfInBounds_toArray, List.set_cons_zero, List.set_cons_succ]; rfl)) (hJ1_4_5 (gb10107, gb10108) _ ⟨hHeld, (by (with_reducible repeat (first | refine blk_drewN ?_ _ | refine blk_drew ?_ | refine blk_alloc ?_ _)); exact BK10101.out), (by (with_reducible repeat (first | refine blk_drewN ?_ _ | refine blk_drew ?_ | refine blk_alloc ?_ _)); exact BK10102.out), (by (with_reducible repeat (first | refine blk_drewN ?_ _ | refine blk_drew ?_ | refine blk_alloc ?_ _)); exact BK10107.out), (by (with_reducible repeat (first | refine blk_drewN ?_ _ | refine blk_drew ?_ | refine blk_alloc ?_ _)); exact BK10108.out), GW10107.out, GE10107.out, NB10101_10107.out, NB10107_10101.out, NB10102_10107.out, NB10107_10102.out, NB10108_10107.out, NB10107_10108.out, GW10108.out, GE10108.out, NB10101_10108.out, NB10108_10101.out, NB10102_10108.out, NB10108_10102.out, (by repeat (first | (with_reducible first | exact HB.out | apply below_alloc | apply pw_below_drewN | apply below_drew1 | refine below_set ?_ GE10101.out | refine below_set ?_ GE10102.out | refine below_set ?_ GE10107.out | refine below_set ?_ GE10108.out) | exact HB.out))⟩)
              · skip
                rintro gb10108 w24 ⟨hS_, h0_, h1_, h2_, h3_, h4_, h5_, h6_, h7_, h8_, h9_⟩
                have n0_ : Aside0 (w24.heap[gb10101]? = some (.cells #[.int .u32 a0_0, .int .i64 a0_1] 44 (0, 0))) := ⟨h0_⟩
                have n1_ : Aside0 (w24.heap[gb10102]? = some (.cells #[.int .u32 a1_0, .int .i64 a1_1] 44 (0, 0))) := ⟨h1_⟩
                have n2_ : Aside0 (w24.heap[gb10108]? = some (.cells #[.int .u32 0, .int .i64 0] 46 (0, 0))) := ⟨h2_⟩
                have n3_ : Aside0 (w.heap.size ≤ gb10108) := ⟨h3_⟩
                have n4_ : Aside0 (w.heap.size ≤ gb10108) := ⟨h4_⟩
                have n5_ : Aside0 (gb10101 ≠ gb10108) := ⟨h5_⟩
                have n6_ : Aside0 (gb10108 ≠ gb10101) := ⟨h6_⟩
                have n7_ : Aside0 (gb10102 ≠ gb10108) := ⟨h7_⟩
                have n8_ : Aside0 (gb10108 ≠ gb10102) := ⟨h8_⟩
                have n9_ : Aside0 (Below w.heap.size w w24) := ⟨h9_⟩
                clear BK10101
                clear BK10102
                clear HB
                clear h0_ h1_ h2_ h3_ h4_ h5_ h6_ h7_ h8_ h9_
                have BK10101 := n0_
                have BK10102 := n1_
                have BK10108 := n2_
                have GW10108 := n3_
                have GE10108 := n4_
                have NB10101_10108 := n5_
                have NB10108_10101 := n6_
                have NB10102_10108 := n7_
                have NB10108_10102 := n8_
                have HB := n9_
                clear n0_ n1_ n2_ n3_ n4_ n5_ n6_ n7_ n8_ n9_
                have hHeld : w24.cell? ⟨gb10101, 0, none⟩ = some (.int .u32 a0_0) ∧ w24.cell? ⟨gb10101, 1, none⟩ = some (.int .i64 a0_1) ∧ w24.cell? ⟨gb10102, 0, none⟩ = some (.int .u32 a1_0) ∧ w24.cell? ⟨gb10102, 1, none⟩ = some (.int .i64 a1_1) := hS_
                refine norm_ (a' := ?_) ?_ ?_
                rotate_left
                · simp only [putAll, Act.put, List.setIfInBounds_toArray, List.set_cons_zero, List.set_cons_succ]
                  rfl
                refine two_ (i := 3) (j := 4) (Ni := some 10) (Nj := some 5) #[true, true, true, true, false, true, false, false] #[true, true, true, false, true, true, false, false] rfl rfl rfl rfl (two_of HT_.out (by kernel_rfl)) (by decide) (by decide) (fun K hK => ?_) (fun K hK => ?_)
                · skip
                  refine goes_ Tryd.func33 (by kernel_rfl) rfl #[.agg #[.int .u32 a1_0, .int .i64 a1_1]] (by rfl) rfl rfl (by (try simp only [List.map_toArray, List.map_cons, List.map_nil]); first | done | rfl | (simp only [List.length_drop, List.length_take]; rfl)) ?_
                  with_reducible refine (virgatelaw02_Ours.calls a1_0 a1_1 a1_0 a1_1 _ A4.out).mono ?_
                  rintro e w25 ⟨rfl, hb⟩
                  refine ⟨_, rfl, ?_⟩
                  have n0_ := Aside0.mk (blk_below (g := gb10101) (o := .cells #[.int .u32 a0_0, .int .i64 a0_1] 44 (0, 0)) (by (with_reducible repeat (first | refine blk_drewN ?_ _ | refine blk_drew ?_ | refine blk_alloc ?_ _)); exact BK10101.out) hb)
                  have n1_ := Aside0.mk (blk_below (g := gb10102) (o := .cells #[.int .u32 a1_0, .int .i64 a1_1] 44 (0, 0)) (by (with_reducible repeat (first | refine blk_drewN ?_ _ | refine blk_drew ?_ | refine blk_alloc ?_ _)); exact BK10102.out) hb)
                  have n2_ := Aside0.mk (blk_below (g := gb10108) (o := .cells #[.int .u32 0, .int .i64 0] 46 (0, 0)) (by (with_reducible repeat (first | refine blk_drewN ?_ _ | refine blk_drew ?_ | refine blk_alloc ?_ _)); exact BK10108.out) hb)
                  have n3_ := Aside0.mk (below_step (by repeat (first | (with_reducible first | exact HB.out | apply below_alloc | apply pw_below_drewN | apply below_drew1 | refine below_set ?_ GE10101.out | refine below_set ?_ GE10102.out | refine below_set ?_ GE10108.out) | exact HB.out)) hb)
                  clear BK10101
                  clear BK10102
                  clear BK10108
                  clear HB
                  have BK10101 := n0_
                  have BK10102 := n1_
                  have BK10108 := n2_
                  have HB := n3_
                  clear n0_ n1_ n2_ n3_
                  (try clear hb)
                  (try clear hb2)
                  (try clear hk)
                  (try clear hi)
                  refine hK.out _ _ ⟨(blk_cell BK10101.out 0).trans rfl, (blk_cell BK10101.out 1).trans rfl, (blk_cell BK10102.out 0).trans rfl, (blk_cell BK10102.out 1).trans rfl⟩ (fun hHeld => ?_)
                  clear hK K
                  refine norm_ (a' := ?_) ?_ ?_
                  rotate_left
                  · show Act.put _ (some 10) _ = _
                    simp only [Act.put, List.setIfInBounds_toArray, List.set_cons_zero, List.set_cons_succ, i64_w, i32_w]
                    rfl
                  exact norm_ (by first | (simp only [putAll, Act.put, List.setIfInBounds_toArray, List.set_cons_zero, List.set_cons_succ]; done) | (simp only [putAll, Act.put, List.setIfInBounds_toArray, List.set_cons_zero, List.set_cons_succ]; rfl)) (hJ1_3_5 (gb10108) _ ⟨hHeld, (by (with_reducible repeat (first | refine blk_drewN ?_ _ | refine blk_drew ?_ | refine blk_alloc ?_ _)); exact BK10101.out), (by (with_reducible repeat (first | refine blk_drewN ?_ _ | refine blk_drew ?_ | refine blk_alloc ?_ _)); exact BK10102.out), (by (with_reducible repeat (first | refine blk_drewN ?_ _ | refine blk_drew ?_ | refine blk_alloc ?_ _)); exact BK10108.out), GW10108.out, GE10108.out, NB10101_10108.out, NB10108_10101.out, NB10102_10108.out, NB10108_10102.out, (by repeat (first | (with_reducible first | exact HB.out | apply below_alloc | apply pw_below_drewN | apply below_drew1 | refine below_set ?_ GE10101.out | refine below_set ?_ GE10102.out | refine below_set ?_ GE10108.out) | exact HB.out))⟩)
                · skip
                  refine box_step ?hg (N := 5) ?hd (cs := #[.int .u32 0, .int .i64 0]) (t := 46) ?hr ?_; (case hd => rfl); (case hg => rfl); (case hr => first | (go_simp; done) | (go_simp; rfl))
                  intro gb10107 hg w25 hbox hb
                  have n0_ := Aside0.mk (blk_below (g := gb10101) (o := .cells #[.int .u32 a0_0, .int .i64 a0_1] 44 (0, 0)) (by (with_reducible repeat (first | refine blk_drewN ?_ _ | refine blk_drew ?_ | refine blk_alloc ?_ _)); exact BK10101.out) hb)
                  have n1_ := Aside0.mk (blk_below (g := gb10102) (o := .cells #[.int .u32 a1_0, .int .i64 a1_1] 44 (0, 0)) (by (with_reducible repeat (first | refine blk_drewN ?_ _ | refine blk_drew ?_ | refine blk_alloc ?_ _)); exact BK10102.out) hb)
                  have n2_ := Aside0.mk (blk_below (g := gb10108) (o := .cells #[.int .u32 0, .int .i64 0] 46 (0, 0)) (by (with_reducible repeat (first | refine blk_drewN ?_ _ | refine blk_drew ?_ | refine blk_alloc ?_ _)); exact BK10108.out) hb)
                  have n3_ := Aside0.mk (below_step (by repeat (first | (with_reducible first | exact HB.out | apply below_alloc | apply pw_below_drewN | apply below_drew1 | refine below_set ?_ GE10101.out | refine below_set ?_ GE10102.out | refine below_set ?_ GE10108.out) | exact HB.out)) hb)
                  have n4_ := Aside0.mk (hbox)
                  have n5_ := Aside0.mk ((by rw [hg]; exact (below_size (by repeat (first | (with_reducible first | exact HB.out | apply below_alloc | apply pw_below_drewN | apply below_drew1 | refine below_set ?_ GE10101.out | refine below_set ?_ GE10102.out | refine below_set ?_ GE10108.out) | exact HB.out))) : w.heap.size ≤ gb10107))
                  have n6_ := Aside0.mk ((by rw [hg]; exact (below_size (by repeat (first | (with_reducible first | exact HB.out | apply below_alloc | apply pw_below_drewN | apply below_drew1 | refine below_set ?_ GE10101.out | refine below_set ?_ GE10102.out | refine below_set ?_ GE10108.out) | exact HB.out))) : w.heap.size ≤ gb10107))
                  have n7_ := Aside0.mk ((by rw [hg]; exact Nat.ne_of_lt (blk_lt (g := gb10101) (o := .cells #[.int .u32 a0_0, .int .i64 a0_1] 44 (0, 0)) (by (with_reducible repeat (first | refine blk_drewN ?_ _ | refine blk_drew ?_ | refine blk_alloc ?_ _)); exact BK10101.out)) : gb10101 ≠ gb10107))
                  have n8_ := Aside0.mk ((by rw [hg]; exact Nat.ne_of_gt (blk_lt (g := gb10101) (o := .cells #[.int .u32 a0_0, .int .i64 a0_1] 44 (0, 0)) (by (with_reducible repeat (first | refine blk_drewN ?_ _ | refine blk_drew ?_ | refine blk_alloc ?_ _)); exact BK10101.out)) : gb10107 ≠ gb10101))
                  have n9_ := Aside0.mk ((by rw [hg]; exact Nat.ne_of_lt (blk_lt (g := gb10102) (o := .cells #[.int .u32 a1_0, .int .i64 a1_1] 44 (0, 0)) (by (with_reducible repeat (first | refine blk_drewN ?_ _ | refine blk_drew ?_ | refine blk_alloc ?_ _)); exact BK10102.out)) : gb10102 ≠ gb10107))
                  have n10_ := Aside0.mk ((by rw [hg]; exact Nat.ne_of_gt (blk_lt (g := gb10102) (o := .cells #[.int .u32 a1_0, .int .i64 a1_1] 44 (0, 0)) (by (with_reducible repeat (first | refine blk_drewN ?_ _ | refine blk_drew ?_ | refine blk_alloc ?_ _)); exact BK10102.out)) : gb10107 ≠ gb10102))
                  have n11_ := Aside0.mk ((by rw [hg]; exact Nat.ne_of_lt (blk_lt (g := gb10108) (o := .cells #[.int .u32 0, .int .i64 0] 46 (0, 0)) (by (with_reducible repeat (first | refine blk_drewN ?_ _ | refine blk_drew ?_ | refine blk_alloc ?_ _)); exact BK10108.out)) : gb10108 ≠ gb10107))
                  have n12_ := Aside0.mk ((by rw [hg]; exact Nat.ne_of_gt (blk_lt (g := gb10108) (o := .cells #[.int .u32 0, .int .i64 0] 46 (0, 0)) (by (with_reducible repeat (first | refine blk_drewN ?_ _ | refine blk_drew ?_ | refine blk_alloc ?_ _)); exact BK10108.out)) : gb10107 ≠ gb10108))
                  clear BK10101
                  clear BK10102
                  clear BK10108
                  clear HB
                  have BK10101 := n0_
                  have BK10102 := n1_
                  have BK10108 := n2_
                  have HB := n3_
                  have BK10107 := n4_
                  have GW10107 := n5_
                  have GE10107 := n6_
                  have NB10101_10107 := n7_
                  have NB10107_10101 := n8_
                  have NB10102_10107 := n9_
                  have NB10107_10102 := n10_
                  have NB10108_10107 := n11_
                  have NB10107_10108 := n12_
                  clear n0_ n1_ n2_ n3_ n4_ n5_ n6_ n7_ n8_ n9_ n10_ n11_ n12_
                  clear hb hbox hg
                  refine hK.out _ _ ⟨(blk_cell BK10101.out 0).trans rfl, (blk_cell BK10101.out 1).trans rfl, (blk_cell BK10102.out 0).trans rfl, (blk_cell BK10102.out 1).trans rfl⟩ (fun hHeld => ?_)
                  clear hK K
                  refine norm_ (a' := ?_) ?_ ?_
                  rotate_left
                  · show Act.put _ (some 5) _ = _
                    simp only [Act.put, List.setIfInBounds_toArray, List.set_cons_zero, List.set_cons_succ, i64_w, i32_w]
                    rfl
                  exact norm_ (by first | (simp only [putAll, Act.put, List.setIfInBounds_toArray, List.set_cons_zero, List.set_cons_succ]; done) | (simp only [putAll, Act.put, List.setIfInBounds_toArray, List.set_cons_zero, List.set_cons_succ]; rfl)) (hJ1_4_5 (gb10107, gb10108) _ ⟨hHeld, (by (with_reducible repeat (first | refine blk_drewN ?_ _ | refine blk_drew ?_ | refine blk_alloc ?_ _)); exact BK10101.out), (by (with_reducible repeat (first | refine blk_drewN ?_ _ | refine blk_drew ?_ | refine blk_alloc ?_ _)); exact BK10102.out), (by (with_reducible repeat (first | refine blk_drewN ?_ _ | refine blk_drew ?_ | refine blk_alloc ?_ _)); exact BK10107.out), (by (with_reducible repeat (first | refine blk_drewN ?_ _ | refine blk_drew ?_ | refine blk_alloc ?_ _)); exact BK10108.out), GW10107.out, GE10107.out, NB10101_10107.out, NB10107_10101.out, NB10102_10107.out, NB10107_10102.out, NB10108_10107.out, NB10107_10108.out, GW10108.out, GE10108.out, NB10101_10108.out, NB10108_10101.out, NB10102_10108.out, NB10108_10102.out, (by repeat (first | (with_reducible first | exact HB.out | apply below_alloc | apply pw_below_drewN | apply below_drew1 | refine below_set ?_ GE10101.out | refine below_set ?_ GE10102.out | refine below_set ?_ GE10108.out | refine below_set ?_ GE10107.out) | exact HB.out))⟩)
            · skip
              rintro gb10107 w24 ⟨hS_, h0_, h1_, h2_, h3_, h4_, h5_, h6_, h7_, h8_, h9_⟩
              have n0_ : Aside0 (w24.heap[gb10101]? = some (.cells #[.int .u32 a0_0, .int .i64 a0_1] 44 (0, 0))) := ⟨h0_⟩
              have n1_ : Aside0 (w24.heap[gb10102]? = some (.cells #[.int .u32 a1_0, .int .i64 a1_1] 44 (0, 0))) := ⟨h1_⟩
              have n2_ : Aside0 (w24.heap[gb10107]? = some (.cells #[.int .u32 0, .int .i64 0] 46 (0, 0))) := ⟨h2_⟩
              have n3_ : Aside0 (w.heap.size ≤ gb10107) := ⟨h3_⟩
              have n4_ : Aside0 (w.heap.size ≤ gb10107) := ⟨h4_⟩
              have n5_ : Aside0 (gb10101 ≠ gb10107) := ⟨h5_⟩
              have n6_ : Aside0 (gb10107 ≠ gb10101) := ⟨h6_⟩
              have n7_ : Aside0 (gb10102 ≠ gb10107) := ⟨h7_⟩
              have n8_ : Aside0 (gb10107 ≠ gb10102) := ⟨h8_⟩
              have n9_ : Aside0 (Below w.heap.size w w24) := ⟨h9_⟩
              clear BK10101
              clear BK10102
              clear HB
              clear h0_ h1_ h2_ h3_ h4_ h5_ h6_ h7_ h8_ h9_
              have BK10101 := n0_
              have BK10102 := n1_
              have BK10107 := n2_
              have GW10107 := n3_
              have GE10107 := n4_
              have NB10101_10107 := n5_
              have NB10107_10101 := n6_
              have NB10102_10107 := n7_
              have NB10107_10102 := n8_
              have HB := n9_
              clear n0_ n1_ n2_ n3_ n4_ n5_ n6_ n7_ n8_ n9_
              have hHeld : w24.cell? ⟨gb10101, 0, none⟩ = some (.int .u32 a0_0) ∧ w24.cell? ⟨gb10101, 1, none⟩ = some (.int .i64 a0_1) ∧ w24.cell? ⟨gb10102, 0, none⟩ = some (.int .u32 a1_0) ∧ w24.cell? ⟨gb10102, 1, none⟩ = some (.int .i64 a1_1) := hS_
              refine norm_ (a' := ?_) ?_ ?_
              rotate_left
              · simp only [putAll, Act.put, List.setIfInBounds_toArray, List.set_cons_zero, List.set_cons_succ]
                rfl
              refine two_ (i := 3) (j := 5) (Ni := some 10) (Nj := some 6) #[true, true, true, true, true, false, false, false] #[true, true, true, false, true, true, false, false] rfl rfl rfl rfl (two_of HT_.out (by kernel_rfl)) (by decide) (by decide) (fun K hK => ?_) (fun K hK => ?_)
              · skip
                refine goes_ Tryd.func33 (by kernel_rfl) rfl #[.agg #[.int .u32 a1_0, .int .i64 a1_1]] (by rfl) rfl rfl (by (try simp only [List.map_toArray, List.map_cons, List.map_nil]); first | done | rfl | (simp only [List.length_drop, List.length_take]; rfl)) ?_
                with_reducible refine (virgatelaw02_Ours.calls a1_0 a1_1 a1_0 a1_1 _ A4.out).mono ?_
                rintro e w25 ⟨rfl, hb⟩
                refine ⟨_, rfl, ?_⟩
                have n0_ := Aside0.mk (blk_below (g := gb10101) (o := .cells #[.int .u32 a0_0, .int .i64 a0_1] 44 (0, 0)) (by (with_reducible repeat (first | refine blk_drewN ?_ _ | refine blk_drew ?_ | refine blk_alloc ?_ _)); exact BK10101.out) hb)
                have n1_ := Aside0.mk (blk_below (g := gb10102) (o := .cells #[.int .u32 a1_0, .int .i64 a1_1] 44 (0, 0)) (by (with_reducible repeat (first | refine blk_drewN ?_ _ | refine blk_drew ?_ | refine blk_alloc ?_ _)); exact BK10102.out) hb)
                have n2_ := Aside0.mk (blk_below (g := gb10107) (o := .cells #[.int .u32 0, .int .i64 0] 46 (0, 0)) (by (with_reducible repeat (first | refine blk_drewN ?_ _ | refine blk_drew ?_ | refine blk_alloc ?_ _)); exact BK10107.out) hb)
                have n3_ := Aside0.mk (below_step (by repeat (first | (with_reducible first | exact HB.out | apply below_alloc | apply pw_below_drewN | apply below_drew1 | refine below_set ?_ GE10101.out | refine below_set ?_ GE10102.out | refine below_set ?_ GE10107.out) | exact HB.out)) hb)
                clear BK10101
                clear BK10102
                clear BK10107
                clear HB
                have BK10101 := n0_
                have BK10102 := n1_
                have BK10107 := n2_
                have HB := n3_
                clear n0_ n1_ n2_ n3_
                (try clear hb)
                (try clear hb2)
                (try clear hk)
                (try clear hi)
                refine hK.out _ _ ⟨(blk_cell BK10101.out 0).trans rfl, (blk_cell BK10101.out 1).trans rfl, (blk_cell BK10102.out 0).trans rfl, (blk_cell BK10102.out 1).trans rfl⟩ (fun hHeld => ?_)
                clear hK K
                refine norm_ (a' := ?_) ?_ ?_
                rotate_left
                · show Act.put _ (some 10) _ = _
                  simp only [Act.put, List.setIfInBounds_toArray, List.set_cons_zero, List.set_cons_succ, i64_w, i32_w]
                  rfl
                exact norm_ (by first | (simp only [putAll, Act.put, List.setIfInBounds_toArray, List.set_cons_zero, List.set_cons_succ]; done) | (simp only [putAll, Act.put, List.setIfInBounds_toArray, List.set_cons_zero, List.set_cons_succ]; rfl)) (hJ1_3_4 (gb10107) _ ⟨hHeld, (by (with_reducible repeat (first | refine blk_drewN ?_ _ | refine blk_drew ?_ | refine blk_alloc ?_ _)); exact BK10101.out), (by (with_reducible repeat (first | refine blk_drewN ?_ _ | refine blk_drew ?_ | refine blk_alloc ?_ _)); exact BK10102.out), (by (with_reducible repeat (first | refine blk_drewN ?_ _ | refine blk_drew ?_ | refine blk_alloc ?_ _)); exact BK10107.out), GW10107.out, GE10107.out, NB10101_10107.out, NB10107_10101.out, NB10102_10107.out, NB10107_10102.out, (by repeat (first | (with_reducible first | exact HB.out | apply below_alloc | apply pw_below_drewN | apply below_drew1 | refine below_set ?_ GE10101.out | refine below_set ?_ GE10102.out | refine below_set ?_ GE10107.out) | exact HB.out))⟩)
              · skip
                refine box_step ?hg (N := 6) ?hd (cs := #[.int .u32 0, .int .i64 0]) (t := 46) ?hr ?_; (case hd => rfl); (case hg => rfl); (case hr => first | (go_simp; done) | (go_simp; rfl))
                intro gb10108 hg w25 hbox hb
                have n0_ := Aside0.mk (blk_below (g := gb10101) (o := .cells #[.int .u32 a0_0, .int .i64 a0_1] 44 (0, 0)) (by (with_reducible repeat (first | refine blk_drewN ?_ _ | refine blk_drew ?_ | refine blk_alloc ?_ _)); exact BK10101.out) hb)
                have n1_ := Aside0.mk (blk_below (g := gb10102) (o := .cells #[.int .u32 a1_0, .int .i64 a1_1] 44 (0, 0)) (by (with_reducible repeat (first | refine blk_drewN ?_ _ | refine blk_drew ?_ | refine blk_alloc ?_ _)); exact BK10102.out) hb)
                have n2_ := Aside0.mk (blk_below (g := gb10107) (o := .cells #[.int .u32 0, .int .i64 0] 46 (0, 0)) (by (with_reducible repeat (first | refine blk_drewN ?_ _ | refine blk_drew ?_ | refine blk_alloc ?_ _)); exact BK10107.out) hb)
                have n3_ := Aside0.mk (below_step (by repeat (first | (with_reducible first | exact HB.out | apply below_alloc | apply pw_below_drewN | apply below_drew1 | refine below_set ?_ GE10101.out | refine below_set ?_ GE10102.out | refine below_set ?_ GE10107.out) | exact HB.out)) hb)
                have n4_ := Aside0.mk (hbox)
                have n5_ := Aside0.mk ((by rw [hg]; exact (below_size (by repeat (first | (with_reducible first | exact HB.out | apply below_alloc | apply pw_below_drewN | apply below_drew1 | refine below_set ?_ GE10101.out | refine below_set ?_ GE10102.out | refine below_set ?_ GE10107.out) | exact HB.out))) : w.heap.size ≤ gb10108))
                have n6_ := Aside0.mk ((by rw [hg]; exact (below_size (by repeat (first | (with_reducible first | exact HB.out | apply below_alloc | apply pw_below_drewN | apply below_drew1 | refine below_set ?_ GE10101.out | refine below_set ?_ GE10102.out | refine below_set ?_ GE10107.out) | exact HB.out))) : w.heap.size ≤ gb10108))
                have n7_ := Aside0.mk ((by rw [hg]; exact Nat.ne_of_lt (blk_lt (g := gb10101) (o := .cells #[.int .u32 a0_0, .int .i64 a0_1] 44 (0, 0)) (by (with_reducible repeat (first | refine blk_drewN ?_ _ | refine blk_drew ?_ | refine blk_alloc ?_ _)); exact BK10101.out)) : gb10101 ≠ gb10108))
                have n8_ := Aside0.mk ((by rw [hg]; exact Nat.ne_of_gt (blk_lt (g := gb10101) (o := .cells #[.int .u32 a0_0, .int .i64 a0_1] 44 (0, 0)) (by (with_reducible repeat (first | refine blk_drewN ?_ _ | refine blk_drew ?_ | refine blk_alloc ?_ _)); exact BK10101.out)) : gb10108 ≠ gb10101))
                have n9_ := Aside0.mk ((by rw [hg]; exact Nat.ne_of_lt (blk_lt (g := gb10102) (o := .cells #[.int .u32 a1_0, .int .i64 a1_1] 44 (0, 0)) (by (with_reducible repeat (first | refine blk_drewN ?_ _ | refine blk_drew ?_ | refine blk_alloc ?_ _)); exact BK10102.out)) : gb10102 ≠ gb10108))
                have n10_ := Aside0.mk ((by rw [hg]; exact Nat.ne_of_gt (blk_lt (g := gb10102) (o := .cells #[.int .u32 a1_0, .int .i64 a1_1] 44 (0, 0)) (by (with_reducible repeat (first | refine blk_drewN ?_ _ | refine blk_drew ?_ | refine blk_alloc ?_ _)); exact BK10102.out)) : gb10108 ≠ gb10102))
                have n11_ := Aside0.mk ((by rw [hg]; exact Nat.ne_of_lt (blk_lt (g := gb10107) (o := .cells #[.int .u32 0, .int .i64 0] 46 (0, 0)) (by (with_reducible repeat (first | refine blk_drewN ?_ _ | refine blk_drew ?_ | refine blk_alloc ?_ _)); exact BK10107.out)) : gb10107 ≠ gb10108))
                have n12_ := Aside0.mk ((by rw [hg]; exact Nat.ne_of_gt (blk_lt (g := gb10107) (o := .cells #[.int .u32 0, .int .i64 0] 46 (0, 0)) (by (with_reducible repeat (first | refine blk_drewN ?_ _ | refine blk_drew ?_ | refine blk_alloc ?_ _)); exact BK10107.out)) : gb10108 ≠ gb10107))
                clear BK10101
                clear BK10102
                clear BK10107
                clear HB
                have BK10101 := n0_
                have BK10102 := n1_
                have BK10107 := n2_
                have HB := n3_
                have BK10108 := n4_
                have GW10108 := n5_
                have GE10108 := n6_
                have NB10101_10108 := n7_
                have NB10108_10101 := n8_
                have NB10102_10108 := n9_
                have NB10108_10102 := n10_
                have NB10107_10108 := n11_
                have NB10108_10107 := n12_
                clear n0_ n1_ n2_ n3_ n4_ n5_ n6_ n7_ n8_ n9_ n10_ n11_ n12_
                clear hb hbox hg
                refine hK.out _ _ ⟨(blk_cell BK10101.out 0).trans rfl, (blk_cell BK10101.out 1).trans rfl, (blk_cell BK10102.out 0).trans rfl, (blk_cell BK10102.out 1).trans rfl⟩ (fun hHeld => ?_)
                clear hK K
                refine norm_ (a' := ?_) ?_ ?_
                rotate_left
                · show Act.put _ (some 6) _ = _
                  simp only [Act.put, List.setIfInBounds_toArray, List.set_cons_zero, List.set_cons_succ, i64_w, i32_w]
                  rfl
                exact norm_ (by first | (simp only [putAll, Act.put, List.setIfInBounds_toArray, List.set_cons_zero, List.set_cons_succ]; done) | (simp only [putAll, Act.put, List.setIfInBounds_toArray, List.set_cons_zero, List.set_cons_succ]; rfl)) (hJ1_4_5 (gb10107, gb10108) _ ⟨hHeld, (by (with_reducible repeat (first | refine blk_drewN ?_ _ | refine blk_drew ?_ | refine blk_alloc ?_ _)); exact BK10101.out), (by (with_reducible repeat (first | refine blk_drewN ?_ _ | refine blk_drew ?_ | refine blk_alloc ?_ _)); exact BK10102.out), (by (with_reducible repeat (first | refine blk_drewN ?_ _ | refine blk_drew ?_ | refine blk_alloc ?_ _)); exact BK10107.out), (by (with_reducible repeat (first | refine blk_drewN ?_ _ | refine blk_drew ?_ | refine blk_alloc ?_ _)); exact BK10108.out), GW10107.out, GE10107.out, NB10101_10107.out, NB10107_10101.out, NB10102_10107.out, NB10107_10102.out, NB10108_10107.out, NB10107_10108.out, GW10108.out, GE10108.out, NB10101_10108.out, NB10108_10101.out, NB10102_10108.out, NB10108_10102.out, (by repeat (first | (with_reducible first | exact HB.out | apply below_alloc | apply pw_below_drewN | apply below_drew1 | refine below_set ?_ GE10101.out | refine below_set ?_ GE10102.out | refine below_set ?_ GE10107.out | refine below_set ?_ GE10108.out) | exact HB.out))⟩)
          · skip
            rintro _ w24 ⟨hS_, h0_, h1_, h2_⟩
            have n0_ : Aside0 (w24.heap[gb10101]? = some (.cells #[.int .u32 a0_0, .int .i64 a0_1] 44 (0, 0))) := ⟨h0_⟩
            have n1_ : Aside0 (w24.heap[gb10102]? = some (.cells #[.int .u32 a1_0, .int .i64 a1_1] 44 (0, 0))) := ⟨h1_⟩
            have n2_ : Aside0 (Below w.heap.size w w24) := ⟨h2_⟩
            clear BK10101
            clear BK10102
            clear HB
            clear h0_ h1_ h2_
            have BK10101 := n0_
            have BK10102 := n1_
            have HB := n2_
            clear n0_ n1_ n2_
            have hHeld : w24.cell? ⟨gb10101, 0, none⟩ = some (.int .u32 a0_0) ∧ w24.cell? ⟨gb10101, 1, none⟩ = some (.int .i64 a0_1) ∧ w24.cell? ⟨gb10102, 0, none⟩ = some (.int .u32 a1_0) ∧ w24.cell? ⟨gb10102, 1, none⟩ = some (.int .i64 a1_1) := hS_
            refine norm_ (a' := ?_) ?_ ?_
            rotate_left
            · simp only [putAll, Act.put, List.setIfInBounds_toArray, List.set_cons_zero, List.set_cons_succ]
              rfl
            refine two_ (i := 4) (j := 5) (Ni := some 5) (Nj := some 6) #[true, true, true, true, true, false, false, false] #[true, true, true, true, false, true, false, false] rfl rfl rfl rfl (two_of HT_.out (by kernel_rfl)) (by decide) (by decide) (fun K hK => ?_) (fun K hK => ?_)
            · skip
              refine box_step ?hg (N := 5) ?hd (cs := #[.int .u32 0, .int .i64 0]) (t := 46) ?hr ?_; (case hd => rfl); (case hg => rfl); (case hr => first | (go_simp; done) | (go_simp; rfl))
              intro gb10107 hg w25 hbox hb
              have n0_ := Aside0.mk (blk_below (g := gb10101) (o := .cells #[.int .u32 a0_0, .int .i64 a0_1] 44 (0, 0)) (by (with_reducible repeat (first | refine blk_drewN ?_ _ | refine blk_drew ?_ | refine blk_alloc ?_ _)); exact BK10101.out) hb)
              have n1_ := Aside0.mk (blk_below (g := gb10102) (o := .cells #[.int .u32 a1_0, .int .i64 a1_1] 44 (0, 0)) (by (with_reducible repeat (first | refine blk_drewN ?_ _ | refine blk_drew ?_ | refine blk_alloc ?_ _)); exact BK10102.out) hb)
              have n2_ := Aside0.mk (below_step (by repeat (first | (with_reducible first | exact HB.out | apply below_alloc | apply pw_below_drewN | apply below_drew1 | refine below_set ?_ GE10101.out | refine below_set ?_ GE10102.out) | exact HB.out)) hb)
              have n3_ := Aside0.mk (hbox)
              have n4_ := Aside0.mk ((by rw [hg]; exact (below_size (by repeat (first | (with_reducible first | exact HB.out | apply below_alloc | apply pw_below_drewN | apply below_drew1 | refine below_set ?_ GE10101.out | refine below_set ?_ GE10102.out) | exact HB.out))) : w.heap.size ≤ gb10107))
              have n5_ := Aside0.mk ((by rw [hg]; exact (below_size (by repeat (first | (with_reducible first | exact HB.out | apply below_alloc | apply pw_below_drewN | apply below_drew1 | refine below_set ?_ GE10101.out | refine below_set ?_ GE10102.out) | exact HB.out))) : w.heap.size ≤ gb10107))
              have n6_ := Aside0.mk ((by rw [hg]; exact Nat.ne_of_lt (blk_lt (g := gb10101) (o := .cells #[.int .u32 a0_0, .int .i64 a0_1] 44 (0, 0)) (by (with_reducible repeat (first | refine blk_drewN ?_ _ | refine blk_drew ?_ | refine blk_alloc ?_ _)); exact BK10101.out)) : gb10101 ≠ gb10107))
              have n7_ := Aside0.mk ((by rw [hg]; exact Nat.ne_of_gt (blk_lt (g := gb10101) (o := .cells #[.int .u32 a0_0, .int .i64 a0_1] 44 (0, 0)) (by (with_reducible repeat (first | refine blk_drewN ?_ _ | refine blk_drew ?_ | refine blk_alloc ?_ _)); exact BK10101.out)) : gb10107 ≠ gb10101))
              have n8_ := Aside0.mk ((by rw [hg]; exact Nat.ne_of_lt (blk_lt (g := gb10102) (o := .cells #[.int .u32 a1_0, .int .i64 a1_1] 44 (0, 0)) (by (with_reducible repeat (first | refine blk_drewN ?_ _ | refine blk_drew ?_ | refine blk_alloc ?_ _)); exact BK10102.out)) : gb10102 ≠ gb10107))
              have n9_ := Aside0.mk ((by rw [hg]; exact Nat.ne_of_gt (blk_lt (g := gb10102) (o := .cells #[.int .u32 a1_0, .int .i64 a1_1] 44 (0, 0)) (by (with_reducible repeat (first | refine blk_drewN ?_ _ | refine blk_drew ?_ | refine blk_alloc ?_ _)); exact BK10102.out)) : gb10107 ≠ gb10102))
              clear BK10101
              clear BK10102
              clear HB
              have BK10101 := n0_
              have BK10102 := n1_
              have HB := n2_
              have BK10107 := n3_
              have GW10107 := n4_
              have GE10107 := n5_
              have NB10101_10107 := n6_
              have NB10107_10101 := n7_
              have NB10102_10107 := n8_
              have NB10107_10102 := n9_
              clear n0_ n1_ n2_ n3_ n4_ n5_ n6_ n7_ n8_ n9_
              clear hb hbox hg
              refine hK.out _ _ ⟨(blk_cell BK10101.out 0).trans rfl, (blk_cell BK10101.out 1).trans rfl, (blk_cell BK10102.out 0).trans rfl, (blk_cell BK10102.out 1).trans rfl⟩ (fun hHeld => ?_)
              clear hK K
              refine norm_ (a' := ?_) ?_ ?_
              rotate_left
              · show Act.put _ (some 5) _ = _
                simp only [Act.put, List.setIfInBounds_toArray, List.set_cons_zero, List.set_cons_succ, i64_w, i32_w]
                rfl
              exact norm_ (by first | (simp only [putAll, Act.put, List.setIfInBounds_toArray, List.set_cons_zero, List.set_cons_succ]; done) | (simp only [putAll, Act.put, List.setIfInBounds_toArray, List.set_cons_zero, List.set_cons_succ]; rfl)) (hJ1_3_4 (gb10107) _ ⟨hHeld, (by (with_reducible repeat (first | refine blk_drewN ?_ _ | refine blk_drew ?_ | refine blk_alloc ?_ _)); exact BK10101.out), (by (with_reducible repeat (first | refine blk_drewN ?_ _ | refine blk_drew ?_ | refine blk_alloc ?_ _)); exact BK10102.out), (by (with_reducible repeat (first | refine blk_drewN ?_ _ | refine blk_drew ?_ | refine blk_alloc ?_ _)); exact BK10107.out), GW10107.out, GE10107.out, NB10101_10107.out, NB10107_10101.out, NB10102_10107.out, NB10107_10102.out, (by repeat (first | (with_reducible first | exact HB.out | apply below_alloc | apply pw_below_drewN | apply below_drew1 | refine below_set ?_ GE10101.out | refine below_set ?_ GE10102.out | refine below_set ?_ GE10107.out) | exact HB.out))⟩)
            · skip
              refine box_step ?hg (N := 6) ?hd (cs := #[.int .u32 0, .int .i64 0]) (t := 46) ?hr ?_; (case hd => rfl); (case hg => rfl); (case hr => first | (go_simp; done) | (go_simp; rfl))
              intro gb10108 hg w25 hbox hb
              have n0_ := Aside0.mk (blk_below (g := gb10101) (o := .cells #[.int .u32 a0_0, .int .i64 a0_1] 44 (0, 0)) (by (with_reducible repeat (first | refine blk_drewN ?_ _ | refine blk_drew ?_ | refine blk_alloc ?_ _)); exact BK10101.out) hb)
              have n1_ := Aside0.mk (blk_below (g := gb10102) (o := .cells #[.int .u32 a1_0, .int .i64 a1_1] 44 (0, 0)) (by (with_reducible repeat (first | refine blk_drewN ?_ _ | refine blk_drew ?_ | refine blk_alloc ?_ _)); exact BK10102.out) hb)
              have n2_ := Aside0.mk (below_step (by repeat (first | (with_reducible first | exact HB.out | apply below_alloc | apply pw_below_drewN | apply below_drew1 | refine below_set ?_ GE10101.out | refine below_set ?_ GE10102.out) | exact HB.out)) hb)
              have n3_ := Aside0.mk (hbox)
              have n4_ := Aside0.mk ((by rw [hg]; exact (below_size (by repeat (first | (with_reducible first | exact HB.out | apply below_alloc | apply pw_below_drewN | apply below_drew1 | refine below_set ?_ GE10101.out | refine below_set ?_ GE10102.out) | exact HB.out))) : w.heap.size ≤ gb10108))
              have n5_ := Aside0.mk ((by rw [hg]; exact (below_size (by repeat (first | (with_reducible first | exact HB.out | apply below_alloc | apply pw_below_drewN | apply below_drew1 | refine below_set ?_ GE10101.out | refine below_set ?_ GE10102.out) | exact HB.out))) : w.heap.size ≤ gb10108))
              have n6_ := Aside0.mk ((by rw [hg]; exact Nat.ne_of_lt (blk_lt (g := gb10101) (o := .cells #[.int .u32 a0_0, .int .i64 a0_1] 44 (0, 0)) (by (with_reducible repeat (first | refine blk_drewN ?_ _ | refine blk_drew ?_ | refine blk_alloc ?_ _)); exact BK10101.out)) : gb10101 ≠ gb10108))
              have n7_ := Aside0.mk ((by rw [hg]; exact Nat.ne_of_gt (blk_lt (g := gb10101) (o := .cells #[.int .u32 a0_0, .int .i64 a0_1] 44 (0, 0)) (by (with_reducible repeat (first | refine blk_drewN ?_ _ | refine blk_drew ?_ | refine blk_alloc ?_ _)); exact BK10101.out)) : gb10108 ≠ gb10101))
              have n8_ := Aside0.mk ((by rw [hg]; exact Nat.ne_of_lt (blk_lt (g := gb10102) (o := .cells #[.int .u32 a1_0, .int .i64 a1_1] 44 (0, 0)) (by (with_reducible repeat (first | refine blk_drewN ?_ _ | refine blk_drew ?_ | refine blk_alloc ?_ _)); exact BK10102.out)) : gb10102 ≠ gb10108))
              have n9_ := Aside0.mk ((by rw [hg]; exact Nat.ne_of_gt (blk_lt (g := gb10102) (o := .cells #[.int .u32 a1_0, .int .i64 a1_1] 44 (0, 0)) (by (with_reducible repeat (first | refine blk_drewN ?_ _ | refine blk_drew ?_ | refine blk_alloc ?_ _)); exact BK10102.out)) : gb10108 ≠ gb10102))
              clear BK10101
              clear BK10102
              clear HB
              have BK10101 := n0_
              have BK10102 := n1_
              have HB := n2_
              have BK10108 := n3_
              have GW10108 := n4_
              have GE10108 := n5_
              have NB10101_10108 := n6_
              have NB10108_10101 := n7_
              have NB10102_10108 := n8_
              have NB10108_10102 := n9_
              clear n0_ n1_ n2_ n3_ n4_ n5_ n6_ n7_ n8_ n9_
              clear hb hbox hg
              refine hK.out _ _ ⟨(blk_cell BK10101.out 0).trans rfl, (blk_cell BK10101.out 1).trans rfl, (blk_cell BK10102.out 0).trans rfl, (blk_cell BK10102.out 1).trans rfl⟩ (fun hHeld => ?_)
              clear hK K
              refine norm_ (a' := ?_) ?_ ?_
              rotate_left
              · show Act.put _ (some 6) _ = _
                simp only [Act.put, List.setIfInBounds_toArray, List.set_cons_zero, List.set_cons_succ, i64_w, i32_w]
                rfl
              exact norm_ (by first | (simp only [putAll, Act.put, List.setIfInBounds_toArray, List.set_cons_zero, List.set_cons_succ]; done) | (simp only [putAll, Act.put, List.setIfInBounds_toArray, List.set_cons_zero, List.set_cons_succ]; rfl)) (hJ1_3_5 (gb10108) _ ⟨hHeld, (by (with_reducible repeat (first | refine blk_drewN ?_ _ | refine blk_drew ?_ | refine blk_alloc ?_ _)); exact BK10101.out), (by (with_reducible repeat (first | refine blk_drewN ?_ _ | refine blk_drew ?_ | refine blk_alloc ?_ _)); exact BK10102.out), (by (with_reducible repeat (first | refine blk_drewN ?_ _ | refine blk_drew ?_ | refine blk_alloc ?_ _)); exact BK10108.out), GW10108.out, GE10108.out, NB10101_10108.out, NB10108_10101.out, NB10102_10108.out, NB10108_10102.out, (by repeat (first | (with_reducible first | exact HB.out | apply below_alloc | apply pw_below_drewN | apply below_drew1 | refine below_set ?_ GE10101.out | refine below_set ?_ GE10102.out | refine below_set ?_ GE10108.out) | exact HB.out))⟩)
        · skip
          rintro ⟨gb10107, gb10108⟩ w25 ⟨hS_, h0_, h1_, h2_, h3_, h4_, h5_, h6_, h7_, h8_, h9_, h10_, h11_, h12_, h13_, h14_, h15_, h16_, h17_, h18_⟩
          have n0_ : Aside0 (w25.heap[gb10101]? = some (.cells #[.int .u32 a0_0, .int .i64 a0_1] 44 (0, 0))) := ⟨h0_⟩
          have n1_ : Aside0 (w25.heap[gb10102]? = some (.cells #[.int .u32 a1_0, .int .i64 a1_1] 44 (0, 0))) := ⟨h1_⟩
          have n2_ : Aside0 (w25.heap[gb10107]? = some (.cells #[.int .u32 0, .int .i64 0] 46 (0, 0))) := ⟨h2_⟩
          have n3_ : Aside0 (w25.heap[gb10108]? = some (.cells #[.int .u32 0, .int .i64 0] 46 (0, 0))) := ⟨h3_⟩
          have n4_ : Aside0 (w.heap.size ≤ gb10107) := ⟨h4_⟩
          have n5_ : Aside0 (w.heap.size ≤ gb10107) := ⟨h5_⟩
          have n6_ : Aside0 (gb10101 ≠ gb10107) := ⟨h6_⟩
          have n7_ : Aside0 (gb10107 ≠ gb10101) := ⟨h7_⟩
          have n8_ : Aside0 (gb10102 ≠ gb10107) := ⟨h8_⟩
          have n9_ : Aside0 (gb10107 ≠ gb10102) := ⟨h9_⟩
          have n10_ : Aside0 (gb10108 ≠ gb10107) := ⟨h10_⟩
          have n11_ : Aside0 (gb10107 ≠ gb10108) := ⟨h11_⟩
          have n12_ : Aside0 (w.heap.size ≤ gb10108) := ⟨h12_⟩
          have n13_ : Aside0 (w.heap.size ≤ gb10108) := ⟨h13_⟩
          have n14_ : Aside0 (gb10101 ≠ gb10108) := ⟨h14_⟩
          have n15_ : Aside0 (gb10108 ≠ gb10101) := ⟨h15_⟩
          have n16_ : Aside0 (gb10102 ≠ gb10108) := ⟨h16_⟩
          have n17_ : Aside0 (gb10108 ≠ gb10102) := ⟨h17_⟩
          have n18_ : Aside0 (Below w.heap.size w w25) := ⟨h18_⟩
          clear BK10101
          clear BK10102
          clear HB
          clear h0_ h1_ h2_ h3_ h4_ h5_ h6_ h7_ h8_ h9_ h10_ h11_ h12_ h13_ h14_ h15_ h16_ h17_ h18_
          have BK10101 := n0_
          have BK10102 := n1_
          have BK10107 := n2_
          have BK10108 := n3_
          have GW10107 := n4_
          have GE10107 := n5_
          have NB10101_10107 := n6_
          have NB10107_10101 := n7_
          have NB10102_10107 := n8_
          have NB10107_10102 := n9_
          have NB10108_10107 := n10_
          have NB10107_10108 := n11_
          have GW10108 := n12_
          have GE10108 := n13_
          have NB10101_10108 := n14_
          have NB10108_10101 := n15_
          have NB10102_10108 := n16_
          have NB10108_10102 := n17_
          have HB := n18_
          clear n0_ n1_ n2_ n3_ n4_ n5_ n6_ n7_ n8_ n9_ n10_ n11_ n12_ n13_ n14_ n15_ n16_ n17_ n18_
          have hHeld : w25.cell? ⟨gb10101, 0, none⟩ = some (.int .u32 a0_0) ∧ w25.cell? ⟨gb10101, 1, none⟩ = some (.int .i64 a0_1) ∧ w25.cell? ⟨gb10102, 0, none⟩ = some (.int .u32 a1_0) ∧ w25.cell? ⟨gb10102, 1, none⟩ = some (.int .i64 a1_1) := hS_
          refine norm_ (a' := ?_) ?_ ?_
          rotate_left
          · simp only [putAll, Act.put, List.setIfInBounds_toArray, List.set_cons_zero, List.set_cons_succ]
            rfl
          refine one_ (i := 3) (N := some 10) #[true, true, true, true, true, true, false, false] rfl rfl (one_of HT_.out (by kernel_rfl)) (by decide) (fun K hK => ?_)
          refine goes_ Tryd.func33 (by kernel_rfl) rfl #[.agg #[.int .u32 a1_0, .int .i64 a1_1]] (by rfl) rfl rfl (by (try simp only [List.map_toArray, List.map_cons, List.map_nil]); first | done | rfl | (simp only [List.length_drop, List.length_take]; rfl)) ?_
          with_reducible refine (virgatelaw02_Ours.calls a1_0 a1_1 a1_0 a1_1 _ A4.out).mono ?_
          rintro e w26 ⟨rfl, hb⟩
          refine ⟨_, rfl, ?_⟩
          have n0_ := Aside0.mk (blk_below (g := gb10101) (o := .cells #[.int .u32 a0_0, .int .i64 a0_1] 44 (0, 0)) (by (with_reducible repeat (first | refine blk_drewN ?_ _ | refine blk_drew ?_ | refine blk_alloc ?_ _)); exact BK10101.out) hb)
          have n1_ := Aside0.mk (blk_below (g := gb10102) (o := .cells #[.int .u32 a1_0, .int .i64 a1_1] 44 (0, 0)) (by (with_reducible repeat (first | refine blk_drewN ?_ _ | refine blk_drew ?_ | refine blk_alloc ?_ _)); exact BK10102.out) hb)
          have n2_ := Aside0.mk (blk_below (g := gb10107) (o := .cells #[.int .u32 0, .int .i64 0] 46 (0, 0)) (by (with_reducible repeat (first | refine blk_drewN ?_ _ | refine blk_drew ?_ | refine blk_alloc ?_ _)); exact BK10107.out) hb)
          have n3_ := Aside0.mk (blk_below (g := gb10108) (o := .cells #[.int .u32 0, .int .i64 0] 46 (0, 0)) (by (with_reducible repeat (first | refine blk_drewN ?_ _ | refine blk_drew ?_ | refine blk_alloc ?_ _)); exact BK10108.out) hb)
          have n4_ := Aside0.mk (below_step (by repeat (first | (with_reducible first | exact HB.out | apply below_alloc | apply pw_below_drewN | apply below_drew1 | refine below_set ?_ GE10101.out | refine below_set ?_ GE10102.out | refine below_set ?_ GE10107.out | refine below_set ?_ GE10108.out) | exact HB.out)) hb)
          clear BK10101
          clear BK10102
          clear BK10107
          clear BK10108
          clear HB
          have BK10101 := n0_
          have BK10102 := n1_
          have BK10107 := n2_
          have BK10108 := n3_
          have HB := n4_
          clear n0_ n1_ n2_ n3_ n4_
          (try clear hb)
          (try clear hb2)
          (try clear hk)
          (try clear hi)
          refine hK.out _ _ ⟨(blk_cell BK10101.out 0).trans rfl, (blk_cell BK10101.out 1).trans rfl, (blk_cell BK10102.out 0).trans rfl, (blk_cell BK10102.out 1).trans rfl⟩ (fun hHeld => ?_)
          clear hK K
          refine norm_ (a' := ?_) ?_ ?_
          rotate_left
          · show Act.put _ (some 10) _ = _
            simp only [Act.put, List.setIfInBounds_toArray, List.set_cons_zero, List.set_cons_succ, i64_w, i32_w]
            rfl
          exact norm_ (by first | (simp only [putAll, Act.put, List.setIfInBounds_toArray, List.set_cons_zero, List.set_cons_succ]; done) | (simp only [putAll, Act.put, List.setIfInBounds_toArray, List.set_cons_zero, List.set_cons_succ]; rfl)) (hJ1_3_4_5 (gb10107, gb10108) _ ⟨hHeld, (by (with_reducible repeat (first | refine blk_drewN ?_ _ | refine blk_drew ?_ | refine blk_alloc ?_ _)); exact BK10101.out), (by (with_reducible repeat (first | refine blk_drewN ?_ _ | refine blk_drew ?_ | refine blk_alloc ?_ _)); exact BK10102.out), (by (with_reducible repeat (first | refine blk_drewN ?_ _ | refine blk_drew ?_ | refine blk_alloc ?_ _)); exact BK10107.out), (by (with_reducible repeat (first | refine blk_drewN ?_ _ | refine blk_drew ?_ | refine blk_alloc ?_ _)); exact BK10108.out), GW10107.out, GE10107.out, NB10101_10107.out, NB10107_10101.out, NB10102_10107.out, NB10107_10102.out, NB10108_10107.out, NB10107_10108.out, GW10108.out, GE10108.out, NB10101_10108.out, NB10108_10101.out, NB10102_10108.out, NB10108_10102.out, (by repeat (first | (with_reducible first | exact HB.out | apply below_alloc | apply pw_below_drewN | apply below_drew1 | refine below_set ?_ GE10101.out | refine below_set ?_ GE10102.out | refine below_set ?_ GE10107.out | refine below_set ?_ GE10108.out) | exact HB.out))⟩)
      · skip
        rintro gb10108 w25 ⟨hS_, h0_, h1_, h2_, h3_, h4_, h5_, h6_, h7_, h8_, h9_⟩
        have n0_ : Aside0 (w25.heap[gb10101]? = some (.cells #[.int .u32 a0_0, .int .i64 a0_1] 44 (0, 0))) := ⟨h0_⟩
        have n1_ : Aside0 (w25.heap[gb10102]? = some (.cells #[.int .u32 a1_0, .int .i64 a1_1] 44 (0, 0))) := ⟨h1_⟩
        have n2_ : Aside0 (w25.heap[gb10108]? = some (.cells #[.int .u32 0, .int .i64 0] 46 (0, 0))) := ⟨h2_⟩
        have n3_ : Aside0 (w.heap.size ≤ gb10108) := ⟨h3_⟩
        have n4_ : Aside0 (w.heap.size ≤ gb10108) := ⟨h4_⟩
        have n5_ : Aside0 (gb10101 ≠ gb10108) := ⟨h5_⟩
        have n6_ : Aside0 (gb10108 ≠ gb10101) := ⟨h6_⟩
        have n7_ : Aside0 (gb10102 ≠ gb10108) := ⟨h7_⟩
        have n8_ : Aside0 (gb10108 ≠ gb10102) := ⟨h8_⟩
        have n9_ : Aside0 (Below w.heap.size w w25) := ⟨h9_⟩
        clear BK10101
        clear BK10102
        clear HB
        clear h0_ h1_ h2_ h3_ h4_ h5_ h6_ h7_ h8_ h9_
        have BK10101 := n0_
        have BK10102 := n1_
        have BK10108 := n2_
        have GW10108 := n3_
        have GE10108 := n4_
        have NB10101_10108 := n5_
        have NB10108_10101 := n6_
        have NB10102_10108 := n7_
        have NB10108_10102 := n8_
        have HB := n9_
        clear n0_ n1_ n2_ n3_ n4_ n5_ n6_ n7_ n8_ n9_
        have hHeld : w25.cell? ⟨gb10101, 0, none⟩ = some (.int .u32 a0_0) ∧ w25.cell? ⟨gb10101, 1, none⟩ = some (.int .i64 a0_1) ∧ w25.cell? ⟨gb10102, 0, none⟩ = some (.int .u32 a1_0) ∧ w25.cell? ⟨gb10102, 1, none⟩ = some (.int .i64 a1_1) := hS_
        refine norm_ (a' := ?_) ?_ ?_
        rotate_left
        · simp only [putAll, Act.put, List.setIfInBounds_toArray, List.set_cons_zero, List.set_cons_succ]
          rfl
        refine one_ (i := 4) (N := some 5) #[true, true, true, true, true, true, false, false] rfl rfl (one_of HT_.out (by kernel_rfl)) (by decide) (fun K hK => ?_)
        refine box_step ?hg (N := 5) ?hd (cs := #[.int .u32 0, .int .i64 0]) (t := 46) ?hr ?_; (case hd => rfl); (case hg => rfl); (case hr => first | (go_simp; done) | (go_simp; rfl))
        intro gb10107 hg w26 hbox hb
        have n0_ := Aside0.mk (blk_below (g := gb10101) (o := .cells #[.int .u32 a0_0, .int .i64 a0_1] 44 (0, 0)) (by (with_reducible repeat (first | refine blk_drewN ?_ _ | refine blk_drew ?_ | refine blk_alloc ?_ _)); exact BK10101.out) hb)
        have n1_ := Aside0.mk (blk_below (g := gb10102) (o := .cells #[.int .u32 a1_0, .int .i64 a1_1] 44 (0, 0)) (by (with_reducible repeat (first | refine blk_drewN ?_ _ | refine blk_drew ?_ | refine blk_alloc ?_ _)); exact BK10102.out) hb)
        have n2_ := Aside0.mk (blk_below (g := gb10108) (o := .cells #[.int .u32 0, .int .i64 0] 46 (0, 0)) (by (with_reducible repeat (first | refine blk_drewN ?_ _ | refine blk_drew ?_ | refine blk_alloc ?_ _)); exact BK10108.out) hb)
        have n3_ := Aside0.mk (below_step (by repeat (first | (with_reducible first | exact HB.out | apply below_alloc | apply pw_below_drewN | apply below_drew1 | refine below_set ?_ GE10101.out | refine below_set ?_ GE10102.out | refine below_set ?_ GE10108.out) | exact HB.out)) hb)
        have n4_ := Aside0.mk (hbox)
        have n5_ := Aside0.mk ((by rw [hg]; exact (below_size (by repeat (first | (with_reducible first | exact HB.out | apply below_alloc | apply pw_below_drewN | apply below_drew1 | refine below_set ?_ GE10101.out | refine below_set ?_ GE10102.out | refine below_set ?_ GE10108.out) | exact HB.out))) : w.heap.size ≤ gb10107))
        have n6_ := Aside0.mk ((by rw [hg]; exact (below_size (by repeat (first | (with_reducible first | exact HB.out | apply below_alloc | apply pw_below_drewN | apply below_drew1 | refine below_set ?_ GE10101.out | refine below_set ?_ GE10102.out | refine below_set ?_ GE10108.out) | exact HB.out))) : w.heap.size ≤ gb10107))
        have n7_ := Aside0.mk ((by rw [hg]; exact Nat.ne_of_lt (blk_lt (g := gb10101) (o := .cells #[.int .u32 a0_0, .int .i64 a0_1] 44 (0, 0)) (by (with_reducible repeat (first | refine blk_drewN ?_ _ | refine blk_drew ?_ | refine blk_alloc ?_ _)); exact BK10101.out)) : gb10101 ≠ gb10107))
        have n8_ := Aside0.mk ((by rw [hg]; exact Nat.ne_of_gt (blk_lt (g := gb10101) (o := .cells #[.int .u32 a0_0, .int .i64 a0_1] 44 (0, 0)) (by (with_reducible repeat (first | refine blk_drewN ?_ _ | refine blk_drew ?_ | refine blk_alloc ?_ _)); exact BK10101.out)) : gb10107 ≠ gb10101))
        have n9_ := Aside0.mk ((by rw [hg]; exact Nat.ne_of_lt (blk_lt (g := gb10102) (o := .cells #[.int .u32 a1_0, .int .i64 a1_1] 44 (0, 0)) (by (with_reducible repeat (first | refine blk_drewN ?_ _ | refine blk_drew ?_ | refine blk_alloc ?_ _)); exact BK10102.out)) : gb10102 ≠ gb10107))
        have n10_ := Aside0.mk ((by rw [hg]; exact Nat.ne_of_gt (blk_lt (g := gb10102) (o := .cells #[.int .u32 a1_0, .int .i64 a1_1] 44 (0, 0)) (by (with_reducible repeat (first | refine blk_drewN ?_ _ | refine blk_drew ?_ | refine blk_alloc ?_ _)); exact BK10102.out)) : gb10107 ≠ gb10102))
        have n11_ := Aside0.mk ((by rw [hg]; exact Nat.ne_of_lt (blk_lt (g := gb10108) (o := .cells #[.int .u32 0, .int .i64 0] 46 (0, 0)) (by (with_reducible repeat (first | refine blk_drewN ?_ _ | refine blk_drew ?_ | refine blk_alloc ?_ _)); exact BK10108.out)) : gb10108 ≠ gb10107))
        have n12_ := Aside0.mk ((by rw [hg]; exact Nat.ne_of_gt (blk_lt (g := gb10108) (o := .cells #[.int .u32 0, .int .i64 0] 46 (0, 0)) (by (with_reducible repeat (first | refine blk_drewN ?_ _ | refine blk_drew ?_ | refine blk_alloc ?_ _)); exact BK10108.out)) : gb10107 ≠ gb10108))
        clear BK10101
        clear BK10102
        clear BK10108
        clear HB
        have BK10101 := n0_
        have BK10102 := n1_
        have BK10108 := n2_
        have HB := n3_
        have BK10107 := n4_
        have GW10107 := n5_
        have GE10107 := n6_
        have NB10101_10107 := n7_
        have NB10107_10101 := n8_
        have NB10102_10107 := n9_
        have NB10107_10102 := n10_
        have NB10108_10107 := n11_
        have NB10107_10108 := n12_
        clear n0_ n1_ n2_ n3_ n4_ n5_ n6_ n7_ n8_ n9_ n10_ n11_ n12_
        clear hb hbox hg
        refine hK.out _ _ ⟨(blk_cell BK10101.out 0).trans rfl, (blk_cell BK10101.out 1).trans rfl, (blk_cell BK10102.out 0).trans rfl, (blk_cell BK10102.out 1).trans rfl⟩ (fun hHeld => ?_)
        clear hK K
        refine norm_ (a' := ?_) ?_ ?_
        rotate_left
        · show Act.put _ (some 5) _ = _
          simp only [Act.put, List.setIfInBounds_toArray, List.set_cons_zero, List.set_cons_succ, i64_w, i32_w]
          rfl
        exact norm_ (by first | (simp only [putAll, Act.put, List.setIfInBounds_toArray, List.set_cons_zero, List.set_cons_succ]; done) | (simp only [putAll, Act.put, List.setIfInBounds_toArray, List.set_cons_zero, List.set_cons_succ]; rfl)) (hJ1_3_4_5 (gb10107, gb10108) _ ⟨hHeld, (by (with_reducible repeat (first | refine blk_drewN ?_ _ | refine blk_drew ?_ | refine blk_alloc ?_ _)); exact BK10101.out), (by (with_reducible repeat (first | refine blk_drewN ?_ _ | refine blk_drew ?_ | refine blk_alloc ?_ _)); exact BK10102.out), (by (with_reducible repeat (first | refine blk_drewN ?_ _ | refine blk_drew ?_ | refine blk_alloc ?_ _)); exact BK10107.out), (by (with_reducible repeat (first | refine blk_drewN ?_ _ | refine blk_drew ?_ | refine blk_alloc ?_ _)); exact BK10108.out), GW10107.out, GE10107.out, NB10101_10107.out, NB10107_10101.out, NB10102_10107.out, NB10107_10102.out, NB10108_10107.out, NB10107_10108.out, GW10108.out, GE10108.out, NB10101_10108.out, NB10108_10101.out, NB10102_10108.out, NB10108_10102.out, (by repeat (first | (with_reducible first | exact HB.out | apply below_alloc | apply pw_below_drewN | apply below_drew1 | refine below_set ?_ GE10101.out | refine below_set ?_ GE10102.out | refine below_set ?_ GE10108.out | refine below_set ?_ GE10107.out) | exact HB.out))⟩)
    · skip
      rintro gb10107 w25 ⟨hS_, h0_, h1_, h2_, h3_, h4_, h5_, h6_, h7_, h8_, h9_⟩
      have n0_ : Aside0 (w25.heap[gb10101]? = some (.cells #[.int .u32 a0_0, .int .i64 a0_1] 44 (0, 0))) := ⟨h0_⟩
      have n1_ : Aside0 (w25.heap[gb10102]? = some (.cells #[.int .u32 a1_0, .int .i64 a1_1] 44 (0, 0))) := ⟨h1_⟩
      have n2_ : Aside0 (w25.heap[gb10107]? = some (.cells #[.int .u32 0, .int .i64 0] 46 (0, 0))) := ⟨h2_⟩
      have n3_ : Aside0 (w.heap.size ≤ gb10107) := ⟨h3_⟩
      have n4_ : Aside0 (w.heap.size ≤ gb10107) := ⟨h4_⟩
      have n5_ : Aside0 (gb10101 ≠ gb10107) := ⟨h5_⟩
      have n6_ : Aside0 (gb10107 ≠ gb10101) := ⟨h6_⟩
      have n7_ : Aside0 (gb10102 ≠ gb10107) := ⟨h7_⟩
      have n8_ : Aside0 (gb10107 ≠ gb10102) := ⟨h8_⟩
      have n9_ : Aside0 (Below w.heap.size w w25) := ⟨h9_⟩
      clear BK10101
      clear BK10102
      clear HB
      clear h0_ h1_ h2_ h3_ h4_ h5_ h6_ h7_ h8_ h9_
      have BK10101 := n0_
      have BK10102 := n1_
      have BK10107 := n2_
      have GW10107 := n3_
      have GE10107 := n4_
      have NB10101_10107 := n5_
      have NB10107_10101 := n6_
      have NB10102_10107 := n7_
      have NB10107_10102 := n8_
      have HB := n9_
      clear n0_ n1_ n2_ n3_ n4_ n5_ n6_ n7_ n8_ n9_
      have hHeld : w25.cell? ⟨gb10101, 0, none⟩ = some (.int .u32 a0_0) ∧ w25.cell? ⟨gb10101, 1, none⟩ = some (.int .i64 a0_1) ∧ w25.cell? ⟨gb10102, 0, none⟩ = some (.int .u32 a1_0) ∧ w25.cell? ⟨gb10102, 1, none⟩ = some (.int .i64 a1_1) := hS_
      refine norm_ (a' := ?_) ?_ ?_
      rotate_left
      · simp only [putAll, Act.put, List.setIfInBounds_toArray, List.set_cons_zero, List.set_cons_succ]
        rfl
      refine one_ (i := 5) (N := some 6) #[true, true, true, true, true, true, false, false] rfl rfl (one_of HT_.out (by kernel_rfl)) (by decide) (fun K hK => ?_)
      refine box_step ?hg (N := 6) ?hd (cs := #[.int .u32 0, .int .i64 0]) (t := 46) ?hr ?_; (case hd => rfl); (case hg => rfl); (case hr => first | (go_simp; done) | (go_simp; rfl))
      intro gb10108 hg w26 hbox hb
      have n0_ := Aside0.mk (blk_below (g := gb10101) (o := .cells #[.int .u32 a0_0, .int .i64 a0_1] 44 (0, 0)) (by (with_reducible repeat (first | refine blk_drewN ?_ _ | refine blk_drew ?_ | refine blk_alloc ?_ _)); exact BK10101.out) hb)
      have n1_ := Aside0.mk (blk_below (g := gb10102) (o := .cells #[.int .u32 a1_0, .int .i64 a1_1] 44 (0, 0)) (by (with_reducible repeat (first | refine blk_drewN ?_ _ | refine blk_drew ?_ | refine blk_alloc ?_ _)); exact BK10102.out) hb)
      have n2_ := Aside0.mk (blk_below (g := gb10107) (o := .cells #[.int .u32 0, .int .i64 0] 46 (0, 0)) (by (with_reducible repeat (first | refine blk_drewN ?_ _ | refine blk_drew ?_ | refine blk_alloc ?_ _)); exact BK10107.out) hb)
      have n3_ := Aside0.mk (below_step (by repeat (first | (with_reducible first | exact HB.out | apply below_alloc | apply pw_below_drewN | apply below_drew1 | refine below_set ?_ GE10101.out | refine below_set ?_ GE10102.out | refine below_set ?_ GE10107.out) | exact HB.out)) hb)
      have n4_ := Aside0.mk (hbox)
      have n5_ := Aside0.mk ((by rw [hg]; exact (below_size (by repeat (first | (with_reducible first | exact HB.out | apply below_alloc | apply pw_below_drewN | apply below_drew1 | refine below_set ?_ GE10101.out | refine below_set ?_ GE10102.out | refine below_set ?_ GE10107.out) | exact HB.out))) : w.heap.size ≤ gb10108))
      have n6_ := Aside0.mk ((by rw [hg]; exact (below_size (by repeat (first | (with_reducible first | exact HB.out | apply below_alloc | apply pw_below_drewN | apply below_drew1 | refine below_set ?_ GE10101.out | refine below_set ?_ GE10102.out | refine below_set ?_ GE10107.out) | exact HB.out))) : w.heap.size ≤ gb10108))
      have n7_ := Aside0.mk ((by rw [hg]; exact Nat.ne_of_lt (blk_lt (g := gb10101) (o := .cells #[.int .u32 a0_0, .int .i64 a0_1] 44 (0, 0)) (by (with_reducible repeat (first | refine blk_drewN ?_ _ | refine blk_drew ?_ | refine blk_alloc ?_ _)); exact BK10101.out)) : gb10101 ≠ gb10108))
      have n8_ := Aside0.mk ((by rw [hg]; exact Nat.ne_of_gt (blk_lt (g := gb10101) (o := .cells #[.int .u32 a0_0, .int .i64 a0_1] 44 (0, 0)) (by (with_reducible repeat (first | refine blk_drewN ?_ _ | refine blk_drew ?_ | refine blk_alloc ?_ _)); exact BK10101.out)) : gb10108 ≠ gb10101))
      have n9_ := Aside0.mk ((by rw [hg]; exact Nat.ne_of_lt (blk_lt (g := gb10102) (o := .cells #[.int .u32 a1_0, .int .i64 a1_1] 44 (0, 0)) (by (with_reducible repeat (first | refine blk_drewN ?_ _ | refine blk_drew ?_ | refine blk_alloc ?_ _)); exact BK10102.out)) : gb10102 ≠ gb10108))
      have n10_ := Aside0.mk ((by rw [hg]; exact Nat.ne_of_gt (blk_lt (g := gb10102) (o := .cells #[.int .u32 a1_0, .int .i64 a1_1] 44 (0, 0)) (by (with_reducible repeat (first | refine blk_drewN ?_ _ | refine blk_drew ?_ | refine blk_alloc ?_ _)); exact BK10102.out)) : gb10108 ≠ gb10102))
      have n11_ := Aside0.mk ((by rw [hg]; exact Nat.ne_of_lt (blk_lt (g := gb10107) (o := .cells #[.int .u32 0, .int .i64 0] 46 (0, 0)) (by (with_reducible repeat (first | refine blk_drewN ?_ _ | refine blk_drew ?_ | refine blk_alloc ?_ _)); exact BK10107.out)) : gb10107 ≠ gb10108))
      have n12_ := Aside0.mk ((by rw [hg]; exact Nat.ne_of_gt (blk_lt (g := gb10107) (o := .cells #[.int .u32 0, .int .i64 0] 46 (0, 0)) (by (with_reducible repeat (first | refine blk_drewN ?_ _ | refine blk_drew ?_ | refine blk_alloc ?_ _)); exact BK10107.out)) : gb10108 ≠ gb10107))
      clear BK10101
      clear BK10102
      clear BK10107
      clear HB
      have BK10101 := n0_
      have BK10102 := n1_
      have BK10107 := n2_
      have HB := n3_
      have BK10108 := n4_
      have GW10108 := n5_
      have GE10108 := n6_
      have NB10101_10108 := n7_
      have NB10108_10101 := n8_
      have NB10102_10108 := n9_
      have NB10108_10102 := n10_
      have NB10107_10108 := n11_
      have NB10108_10107 := n12_
      clear n0_ n1_ n2_ n3_ n4_ n5_ n6_ n7_ n8_ n9_ n10_ n11_ n12_
      clear hb hbox hg
      refine hK.out _ _ ⟨(blk_cell BK10101.out 0).trans rfl, (blk_cell BK10101.out 1).trans rfl, (blk_cell BK10102.out 0).trans rfl, (blk_cell BK10102.out 1).trans rfl⟩ (fun hHeld => ?_)
      clear hK K
      refine norm_ (a' := ?_) ?_ ?_
      rotate_left
      · show Act.put _ (some 6) _ = _
        simp only [Act.put, List.setIfInBounds_toArray, List.set_cons_zero, List.set_cons_succ, i64_w, i32_w]
        rfl
      exact norm_ (by first | (simp only [putAll, Act.put, List.setIfInBounds_toArray, List.set_cons_zero, List.set_cons_succ]; done) | (simp only [putAll, Act.put, List.setIfInBounds_toArray, List.set_cons_zero, List.set_cons_succ]; rfl)) (hJ1_3_4_5 (gb10107, gb10108) _ ⟨hHeld, (by (with_reducible repeat (first | refine blk_drewN ?_ _ | refine blk_drew ?_ | refine blk_alloc ?_ _)); exact BK10101.out), (by (with_reducible repeat (first | refine blk_drewN ?_ _ | refine blk_drew ?_ | refine blk_alloc ?_ _)); exact BK10102.out), (by (with_reducible repeat (first | refine blk_drewN ?_ _ | refine blk_drew ?_ | refine blk_alloc ?_ _)); exact BK10107.out), (by (with_reducible repeat (first | refine blk_drewN ?_ _ | refine blk_drew ?_ | refine blk_alloc ?_ _)); exact BK10108.out), GW10107.out, GE10107.out, NB10101_10107.out, NB10107_10101.out, NB10102_10107.out, NB10107_10102.out, NB10108_10107.out, NB10107_10108.out, GW10108.out, GE10108.out, NB10101_10108.out, NB10108_10101.out, NB10102_10108.out, NB10108_10102.out, (by repeat (first | (with_reducible first | exact HB.out | apply below_alloc | apply pw_below_drewN | apply below_drew1 | refine below_set ?_ GE10101.out | refine below_set ?_ GE10102.out | refine below_set ?_ GE10107.out | refine below_set ?_ GE10108.out) | exact HB.out))⟩)
  rintro ⟨gb10107, gb10108⟩ w26 ⟨hS_, h0_, h1_, h2_, h3_, h4_, h5_, h6_, h7_, h8_, h9_, h10_, h11_, h12_, h13_, h14_, h15_, h16_, h17_, h18_⟩
  have n0_ : Aside0 (w26.heap[gb10101]? = some (.cells #[.int .u32 a0_0, .int .i64 a0_1] 44 (0, 0))) := ⟨h0_⟩
  have n1_ : Aside0 (w26.heap[gb10102]? = some (.cells #[.int .u32 a1_0, .int .i64 a1_1] 44 (0, 0))) := ⟨h1_⟩
  have n2_ : Aside0 (w26.heap[gb10107]? = some (.cells #[.int .u32 0, .int .i64 0] 46 (0, 0))) := ⟨h2_⟩
  have n3_ : Aside0 (w26.heap[gb10108]? = some (.cells #[.int .u32 0, .int .i64 0] 46 (0, 0))) := ⟨h3_⟩
  have n4_ : Aside0 (w.heap.size ≤ gb10107) := ⟨h4_⟩
  have n5_ : Aside0 (w.heap.size ≤ gb10107) := ⟨h5_⟩
  have n6_ : Aside0 (gb10101 ≠ gb10107) := ⟨h6_⟩
  have n7_ : Aside0 (gb10107 ≠ gb10101) := ⟨h7_⟩
  have n8_ : Aside0 (gb10102 ≠ gb10107) := ⟨h8_⟩
  have n9_ : Aside0 (gb10107 ≠ gb10102) := ⟨h9_⟩
  have n10_ : Aside0 (gb10108 ≠ gb10107) := ⟨h10_⟩
  have n11_ : Aside0 (gb10107 ≠ gb10108) := ⟨h11_⟩
  have n12_ : Aside0 (w.heap.size ≤ gb10108) := ⟨h12_⟩
  have n13_ : Aside0 (w.heap.size ≤ gb10108) := ⟨h13_⟩
  have n14_ : Aside0 (gb10101 ≠ gb10108) := ⟨h14_⟩
  have n15_ : Aside0 (gb10108 ≠ gb10101) := ⟨h15_⟩
  have n16_ : Aside0 (gb10102 ≠ gb10108) := ⟨h16_⟩
  have n17_ : Aside0 (gb10108 ≠ gb10102) := ⟨h17_⟩
  have n18_ : Aside0 (Below w.heap.size w w26) := ⟨h18_⟩
  clear BK10101
  clear BK10102
  clear HB
  clear h0_ h1_ h2_ h3_ h4_ h5_ h6_ h7_ h8_ h9_ h10_ h11_ h12_ h13_ h14_ h15_ h16_ h17_ h18_
  have BK10101 := n0_
  have BK10102 := n1_
  have BK10107 := n2_
  have BK10108 := n3_
  have GW10107 := n4_
  have GE10107 := n5_
  have NB10101_10107 := n6_
  have NB10107_10101 := n7_
  have NB10102_10107 := n8_
  have NB10107_10102 := n9_
  have NB10108_10107 := n10_
  have NB10107_10108 := n11_
  have GW10108 := n12_
  have GE10108 := n13_
  have NB10101_10108 := n14_
  have NB10108_10101 := n15_
  have NB10102_10108 := n16_
  have NB10108_10102 := n17_
  have HB := n18_
  clear n0_ n1_ n2_ n3_ n4_ n5_ n6_ n7_ n8_ n9_ n10_ n11_ n12_ n13_ n14_ n15_ n16_ n17_ n18_
  have hHeld : w26.cell? ⟨gb10101, 0, none⟩ = some (.int .u32 a0_0) ∧ w26.cell? ⟨gb10101, 1, none⟩ = some (.int .i64 a0_1) ∧ w26.cell? ⟨gb10102, 0, none⟩ = some (.int .u32 a1_0) ∧ w26.cell? ⟨gb10102, 1, none⟩ = some (.int .i64 a1_1) := hS_
  refine norm_ (a' := ?_) ?_ ?_
  rotate_left
  · simp only [putAll, Act.put, List.setIfInBounds_toArray, List.set_cons_zero, List.set_cons_succ]
    rfl
  refine one_ (i := 6) (N := none) #[true, true, true, true, true, true, true, false] rfl rfl (one_of HT_.out (by kernel_rfl)) (by decide) (fun K hK => ?_)
  have hs27 : w26.cell? ⟨gb10107, 0, none⟩ = some (.int .u32 0) := (blk_cell BK10107.out 0).trans rfl
  have hfs27 := blk_frozen BK10107.out 0
  have hns27_0 := NB10101_10107.out
  have hns27_1 := NB10102_10107.out
  have hns27_3 := NB10108_10107.out
  have hms27_0 := NB10107_10101.out
  have hms27_1 := NB10107_10102.out
  have hms27_3 := NB10107_10108.out
  have hs28 : w26.cell? ⟨gb10107, 1, none⟩ = some (.int .i64 0) := (blk_cell BK10107.out 1).trans rfl
  have hfs28 := blk_frozen BK10107.out 1
  have hns28_0 := NB10101_10107.out
  have hns28_1 := NB10102_10107.out
  have hns28_3 := NB10108_10107.out
  have hms28_0 := NB10107_10101.out
  have hms28_1 := NB10107_10102.out
  have hms28_3 := NB10107_10108.out
  refine skip_ (w1 := ?_) (by rfl) rfl ?_ ?_
  rotate_left
  · go_simp
    rfl
  refine hK.out _ _ ⟨((cell_far (p := ⟨gb10107, _, none⟩) NB10101_10107.out _).trans (((cell_far (p := ⟨gb10107, _, none⟩) NB10101_10107.out _).trans (hHeld.1)))), ((cell_far (p := ⟨gb10107, _, none⟩) NB10101_10107.out _).trans (((cell_far (p := ⟨gb10107, _, none⟩) NB10101_10107.out _).trans (hHeld.2.1)))), ((cell_far (p := ⟨gb10107, _, none⟩) NB10102_10107.out _).trans (((cell_far (p := ⟨gb10107, _, none⟩) NB10102_10107.out _).trans (hHeld.2.2.1)))), ((cell_far (p := ⟨gb10107, _, none⟩) NB10102_10107.out _).trans (((cell_far (p := ⟨gb10107, _, none⟩) NB10102_10107.out _).trans (hHeld.2.2.2))))⟩ (fun hHeld => ?_)
  clear hK K
  refine one_ (i := 7) (N := none) #[true, true, true, true, true, true, true, true] rfl rfl (one_of HT_.out (by kernel_rfl)) (by decide) (fun K hK => ?_)
  have hs29 : w26.cell? ⟨gb10108, 0, none⟩ = some (.int .u32 0) := (blk_cell BK10108.out 0).trans rfl
  have hfs29 := blk_frozen BK10108.out 0
  have hns29_0 := NB10101_10108.out
  have hns29_1 := NB10102_10108.out
  have hns29_2 := NB10107_10108.out
  have hms29_0 := NB10108_10101.out
  have hms29_1 := NB10108_10102.out
  have hms29_2 := NB10108_10107.out
  have hs30 : w26.cell? ⟨gb10108, 1, none⟩ = some (.int .i64 0) := (blk_cell BK10108.out 1).trans rfl
  have hfs30 := blk_frozen BK10108.out 1
  have hns30_0 := NB10101_10108.out
  have hns30_1 := NB10102_10108.out
  have hns30_2 := NB10107_10108.out
  have hms30_0 := NB10108_10101.out
  have hms30_1 := NB10108_10102.out
  have hms30_2 := NB10108_10107.out
  refine skip_ (w1 := ?_) (by rfl) rfl ?_ ?_
  rotate_left
  · go_simp
    rfl
  refine hK.out _ _ ⟨((cell_far (p := ⟨gb10108, _, none⟩) NB10101_10108.out _).trans (((cell_far (p := ⟨gb10108, _, none⟩) NB10101_10108.out _).trans (hHeld.1)))), ((cell_far (p := ⟨gb10108, _, none⟩) NB10101_10108.out _).trans (((cell_far (p := ⟨gb10108, _, none⟩) NB10101_10108.out _).trans (hHeld.2.1)))), ((cell_far (p := ⟨gb10108, _, none⟩) NB10102_10108.out _).trans (((cell_far (p := ⟨gb10108, _, none⟩) NB10102_10108.out _).trans (hHeld.2.2.1)))), ((cell_far (p := ⟨gb10108, _, none⟩) NB10102_10108.out _).trans (((cell_far (p := ⟨gb10108, _, none⟩) NB10102_10108.out _).trans (hHeld.2.2.2))))⟩ (fun hHeld => ?_)
  clear hK K
  refine done_ (done_of HT_.out (by kernel_rfl)) ?_
  try go_wp2
  have n0_ : Aside0 (((((w26.setCell ⟨gb10107, 0, none⟩ (.int .u32 a0_0)).setCell ⟨gb10107, 1, none⟩ (.int .i64 a0_1)).setCell ⟨gb10108, 0, none⟩ (.int .u32 a1_0)).setCell ⟨gb10108, 1, none⟩ (.int .i64 a1_1)).heap[gb10101]? = some (.cells #[.int .u32 a0_0, .int .i64 a0_1] 44 (0, 0))) := ⟨by (with_reducible repeat (first | refine blk_drewN ?_ _ | refine blk_drew ?_ | refine blk_alloc ?_ _)); refine blk_far ?_ NB10101_10108.out _; (with_reducible repeat (first | refine blk_drewN ?_ _ | refine blk_drew ?_ | refine blk_alloc ?_ _)); refine blk_far ?_ NB10101_10108.out _; (with_reducible repeat (first | refine blk_drewN ?_ _ | refine blk_drew ?_ | refine blk_alloc ?_ _)); refine blk_far ?_ NB10101_10107.out _; (with_reducible repeat (first | refine blk_drewN ?_ _ | refine blk_drew ?_ | refine blk_alloc ?_ _)); refine blk_far ?_ NB10101_10107.out _; (with_reducible repeat (first | refine blk_drewN ?_ _ | refine blk_drew ?_ | refine blk_alloc ?_ _)); exact BK10101.out⟩
  have n1_ : Aside0 (((((w26.setCell ⟨gb10107, 0, none⟩ (.int .u32 a0_0)).setCell ⟨gb10107, 1, none⟩ (.int .i64 a0_1)).setCell ⟨gb10108, 0, none⟩ (.int .u32 a1_0)).setCell ⟨gb10108, 1, none⟩ (.int .i64 a1_1)).heap[gb10102]? = some (.cells #[.int .u32 a1_0, .int .i64 a1_1] 44 (0, 0))) := ⟨by (with_reducible repeat (first | refine blk_drewN ?_ _ | refine blk_drew ?_ | refine blk_alloc ?_ _)); refine blk_far ?_ NB10102_10108.out _; (with_reducible repeat (first | refine blk_drewN ?_ _ | refine blk_drew ?_ | refine blk_alloc ?_ _)); refine blk_far ?_ NB10102_10108.out _; (with_reducible repeat (first | refine blk_drewN ?_ _ | refine blk_drew ?_ | refine blk_alloc ?_ _)); refine blk_far ?_ NB10102_10107.out _; (with_reducible repeat (first | refine blk_drewN ?_ _ | refine blk_drew ?_ | refine blk_alloc ?_ _)); refine blk_far ?_ NB10102_10107.out _; (with_reducible repeat (first | refine blk_drewN ?_ _ | refine blk_drew ?_ | refine blk_alloc ?_ _)); exact BK10102.out⟩
  have n2_ : Aside0 (((((w26.setCell ⟨gb10107, 0, none⟩ (.int .u32 a0_0)).setCell ⟨gb10107, 1, none⟩ (.int .i64 a0_1)).setCell ⟨gb10108, 0, none⟩ (.int .u32 a1_0)).setCell ⟨gb10108, 1, none⟩ (.int .i64 a1_1)).heap[gb10107]? = some (.cells #[.int .u32 a0_0, .int .i64 a0_1] 46 (0, 0))) := ⟨by (with_reducible repeat (first | refine blk_drewN ?_ _ | refine blk_drew ?_ | refine blk_alloc ?_ _)); refine blk_far ?_ NB10107_10108.out _; (with_reducible repeat (first | refine blk_drewN ?_ _ | refine blk_drew ?_ | refine blk_alloc ?_ _)); refine blk_far ?_ NB10107_10108.out _; (with_reducible repeat (first | refine blk_drewN ?_ _ | refine blk_drew ?_ | refine blk_alloc ?_ _)); refine blk_put (cs := #[.int .u32 a0_0, .int .i64 0]) ?_ 1 _ rfl; (with_reducible repeat (first | refine blk_drewN ?_ _ | refine blk_drew ?_ | refine blk_alloc ?_ _)); refine blk_put (cs := #[.int .u32 0, .int .i64 0]) ?_ 0 _ rfl; (with_reducible repeat (first | refine blk_drewN ?_ _ | refine blk_drew ?_ | refine blk_alloc ?_ _)); exact BK10107.out⟩
  have n3_ : Aside0 (((((w26.setCell ⟨gb10107, 0, none⟩ (.int .u32 a0_0)).setCell ⟨gb10107, 1, none⟩ (.int .i64 a0_1)).setCell ⟨gb10108, 0, none⟩ (.int .u32 a1_0)).setCell ⟨gb10108, 1, none⟩ (.int .i64 a1_1)).heap[gb10108]? = some (.cells #[.int .u32 a1_0, .int .i64 a1_1] 46 (0, 0))) := ⟨by (with_reducible repeat (first | refine blk_drewN ?_ _ | refine blk_drew ?_ | refine blk_alloc ?_ _)); refine blk_put (cs := #[.int .u32 a1_0, .int .i64 0]) ?_ 1 _ rfl; (with_reducible repeat (first | refine blk_drewN ?_ _ | refine blk_drew ?_ | refine blk_alloc ?_ _)); refine blk_put (cs := #[.int .u32 0, .int .i64 0]) ?_ 0 _ rfl; (with_reducible repeat (first | refine blk_drewN ?_ _ | refine blk_drew ?_ | refine blk_alloc ?_ _)); refine blk_far ?_ NB10108_10107.out _; (with_reducible repeat (first | refine blk_drewN ?_ _ | refine blk_drew ?_ | refine blk_alloc ?_ _)); refine blk_far ?_ NB10108_10107.out _; (with_reducible repeat (first | refine blk_drewN ?_ _ | refine blk_drew ?_ | refine blk_alloc ?_ _)); exact BK10108.out⟩
  have n4_ : Aside0 (Below w.heap.size w ((((w26.setCell ⟨gb10107, 0, none⟩ (.int .u32 a0_0)).setCell ⟨gb10107, 1, none⟩ (.int .i64 a0_1)).setCell ⟨gb10108, 0, none⟩ (.int .u32 a1_0)).setCell ⟨gb10108, 1, none⟩ (.int .i64 a1_1))) := ⟨by repeat (first | (with_reducible first | exact HB.out | apply below_alloc | apply pw_below_drewN | apply below_drew1 | refine below_set ?_ GE10101.out | refine below_set ?_ GE10102.out | refine below_set ?_ GE10107.out | refine below_set ?_ GE10108.out) | exact HB.out)⟩
  (try clear BK10101)
  (try clear BK10102)
  (try clear BK10107)
  (try clear BK10108)
  (try clear HB)
  generalize ((((w26.setCell ⟨gb10107, 0, none⟩ (.int .u32 a0_0)).setCell ⟨gb10107, 1, none⟩ (.int .i64 a0_1)).setCell ⟨gb10108, 0, none⟩ (.int .u32 a1_0)).setCell ⟨gb10108, 1, none⟩ (.int .i64 a1_1)) = w31 at n0_ n1_ n2_ n3_ n4_ ⊢
  have BK10101 := n0_
  have BK10102 := n1_
  have BK10107 := n2_
  have BK10108 := n3_
  have HB := n4_
  clear n0_ n1_ n2_ n3_ n4_
  have n0_ := Aside0.mk (blk_drew BK10101.out)
  have n1_ := Aside0.mk (blk_drew BK10102.out)
  have n2_ := Aside0.mk (blk_drew BK10107.out)
  have n3_ := Aside0.mk (blk_drew BK10108.out)
  have n4_ := Aside0.mk (below_drew1 HB.out)
  clear BK10101
  clear BK10102
  clear BK10107
  clear BK10108
  clear HB
  have BK10101 := n0_
  have BK10102 := n1_
  have BK10107 := n2_
  have BK10108 := n3_
  have HB := n4_
  clear n0_ n1_ n2_ n3_ n4_
  cases p with
  | true =>
    refine start_ (n := 43) (S := fun w' => w'.cell? ⟨gb10107, 0, none⟩ = some (.int .u32 a0_0) ∧ w'.cell? ⟨gb10107, 1, none⟩ = some (.int .i64 a0_1) ∧ w'.cell? ⟨gb10108, 0, none⟩ = some (.int .u32 a1_0) ∧ w'.cell? ⟨gb10108, 1, none⟩ = some (.int .i64 a1_1) ∧ w'.cell? ⟨gb10101, 0, none⟩ = some (.int .u32 a0_0) ∧ w'.cell? ⟨gb10101, 1, none⟩ = some (.int .i64 a0_1) ∧ w'.cell? ⟨gb10102, 0, none⟩ = some (.int .u32 a1_0) ∧ w'.cell? ⟨gb10102, 1, none⟩ = some (.int .i64 a1_1)) (ds := []) #[false, false, false, false, false, false, false, false, false, false, false, false, false, false, false, false, false, false, false, false, false, false, false, false, false, false, false, false, false, false, false, false, false, false, false, false, false, false, false, false, false, false, false] (by kernel_rfl) rfl rfl ⟨(blk_cell BK10107.out 0).trans rfl, (blk_cell BK10107.out 1).trans rfl, (blk_cell BK10108.out 0).trans rfl, (blk_cell BK10108.out 1).trans rfl, (blk_cell BK10101.out 0).trans rfl, (blk_cell BK10101.out 1).trans rfl, (blk_cell BK10102.out 0).trans rfl, (blk_cell BK10102.out 1).trans rfl⟩ (fun hHeld => ?_); refine with_tabW cidrCovers2.tab2 cidrCovers2.bits2 (fun HT_ HW_ => ?_)
    refine take_ (i := 0) (N := some 11) (v := ?_) (a' := ?_) #[true, false, false, false, false, false, false, false, false, false, false, false, false, false, false, false, false, false, false, false, false, false, false, false, false, false, false, false, false, false, false, false, false, false, false, false, false, false, false, false, false, false, false] rfl rfl (take_ofW HT_.out HW_.out (by kernel_rfl)) (fun _ _ _ h => h) (Or.inl ⟨by rfl, ?_⟩) hHeld ?_ ?_
    rotate_left
    · intro w' hS_
      obtain ⟨s0, s1, s2, s3, s4, s5, s6, s7⟩ := hS_
      go_simp
      with_reducible rfl
    rotate_left
    · simp only [Act.put, List.setIfInBounds_toArray, List.set_cons_zero, List.set_cons_succ, i64_w, i32_w]
      rfl
    refine take_ (i := 1) (N := some 12) (v := ?_) (a' := ?_) #[true, true, false, false, false, false, false, false, false, false, false, false, false, false, false, false, false, false, false, false, false, false, false, false, false, false, false, false, false, false, false, false, false, false, false, false, false, false, false, false, false, false, false] rfl rfl (take_ofW HT_.out HW_.out (by kernel_rfl)) (fun _ _ _ h => h) (Or.inl ⟨by rfl, ?_⟩) hHeld ?_ ?_
    rotate_left
    · intro w' hS_
      obtain ⟨s0, s1, s2, s3, s4, s5, s6, s7⟩ := hS_
      go_simp
      with_reducible rfl
    rotate_left
    · simp only [Act.put, List.setIfInBounds_toArray, List.set_cons_zero, List.set_cons_succ, i64_w, i32_w]
      rfl
    refine take_ (i := 3) (N := some 14) (v := ?_) (a' := ?_) #[true, true, false, true, false, false, false, false, false, false, false, false, false, false, false, false, false, false, false, false, false, false, false, false, false, false, false, false, false, false, false, false, false, false, false, false, false, false, false, false, false, false, false] rfl rfl (take_ofW HT_.out HW_.out (by kernel_rfl)) (fun _ _ _ h => h) (Or.inl ⟨by rfl, ?_⟩) hHeld ?_ ?_
    rotate_left
    · intro w' hS_
      obtain ⟨s0, s1, s2, s3, s4, s5, s6, s7⟩ := hS_
      go_simp
      with_reducible rfl
    rotate_left
    · simp only [Act.put, List.setIfInBounds_toArray, List.set_cons_zero, List.set_cons_succ, i64_w, i32_w]
      rfl
    refine take_ (i := 4) (N := some 15) (v := ?_) (a' := ?_) #[true, true, false, true, true, false, false, false, false, false, false, false, false, false, false, false, false, false, false, false, false, false, false, false, false, false, false, false, false, false, false, false, false, false, false, false, false, false, false, false, false, false, false] rfl rfl (take_ofW HT_.out HW_.out (by kernel_rfl)) (fun _ _ _ h => h) (Or.inl ⟨by rfl, ?_⟩) hHeld ?_ ?_
    rotate_left
    · intro w' hS_
      obtain ⟨s0, s1, s2, s3, s4, s5, s6, s7⟩ := hS_
      go_simp
      with_reducible rfl
    rotate_left
    · simp only [Act.put, List.setIfInBounds_toArray, List.set_cons_zero, List.set_cons_succ, i64_w, i32_w]
      rfl
    refine one_ (i := 2) (N := some 13) #[true, true, true, true, true, false, false, false, false, false, false, false, false, false, false, false, false, false, false, false, false, false, false, false, false, false, false, false, false, false, false, false, false, false, false, false, false, false, false, false, false, false, false] rfl rfl (one_of HT_.out (by kernel_rfl)) (by decide) (fun K hK => ?_)
    refine goes_ Tryd.func40 (by kernel_rfl) rfl #[.agg #[.int .u32 a0_0, .int .i64 a0_1], .agg #[.int .u32 a1_0, .int .i64 a1_1]] (by rfl) rfl rfl (by (try simp only [List.map_toArray, List.map_cons, List.map_nil]); first | done | rfl) ?_
    refine (cidr_Net_Covers.calls a0_0 a0_1 a1_0 a1_1 true _ H1.out).mono ?_
    rintro e V2 ⟨rfl, hb⟩
    refine ⟨_, rfl, ?_⟩
    have HBn := Aside0.mk (below_step HB.out hb); clear HB; have HB := HBn; clear HBn
    refine hK.out _ _ ⟨cell_keep hb (hHeld.1), cell_keep hb (hHeld.2.1), cell_keep hb (hHeld.2.2.1), cell_keep hb (hHeld.2.2.2.1), cell_keep hb (hHeld.2.2.2.2.1), cell_keep hb (hHeld.2.2.2.2.2.1), cell_keep hb (hHeld.2.2.2.2.2.2.1), cell_keep hb (hHeld.2.2.2.2.2.2.2)⟩ (fun hHeld => ?_)
    clear hK K
    refine norm_ (a' := ?_) ?_ ?_
    rotate_left
    · show Act.put _ (some 13) _ = _
      simp only [Act.put, List.setIfInBounds_toArray, List.set_cons_zero, List.set_cons_succ, i64_w, i32_w]
      rfl
    refine one_ (i := 5) (N := some 16) #[true, true, true, true, true, true, false, false, false, false, false, false, false, false, false, false, false, false, false, false, false, false, false, false, false, false, false, false, false, false, false, false, false, false, false, false, false, false, false, false, false, false, false] rfl rfl (one_of HT_.out (by kernel_rfl)) (by decide) (fun K hK => ?_)
    refine goes_ Tryd.func41 (by kernel_rfl) rfl #[.agg #[.int .u32 a0_0, .int .i64 a0_1], .agg #[.int .u32 a1_0, .int .i64 a1_1]] (by rfl) rfl rfl (by (try simp only [List.map_toArray, List.map_cons, List.map_nil]); first | done | rfl) ?_
    refine (virgateref02_Covers.calls k a0_0 a0_1 a1_0 a1_1 true _ H3.out).mono ?_
    rintro e V5 ⟨rfl, hb⟩
    refine ⟨_, rfl, ?_⟩
    have HBn := Aside0.mk (below_step HB.out hb); clear HB; have HB := HBn; clear HBn
    refine hK.out _ _ ⟨cell_keep hb (hHeld.1), cell_keep hb (hHeld.2.1), cell_keep hb (hHeld.2.2.1), cell_keep hb (hHeld.2.2.2.1), cell_keep hb (hHeld.2.2.2.2.1), cell_keep hb (hHeld.2.2.2.2.2.1), cell_keep hb (hHeld.2.2.2.2.2.2.1), cell_keep hb (hHeld.2.2.2.2.2.2.2)⟩ (fun hHeld => ?_)
    clear hK K
    refine norm_ (a' := ?_) ?_ ?_
    rotate_left
    · show Act.put _ (some 16) _ = _
      simp only [Act.put, List.setIfInBounds_toArray, List.set_cons_zero, List.set_cons_succ, i64_w, i32_w]
      rfl
    refine pure_ (i := 6) (N := some 17) (v := ?_) (a' := ?_) #[true, true, true, true, true, true, true, false, false, false, false, false, false, false, false, false, false, false, false, false, false, false, false, false, false, false, false, false, false, false, false, false, false, false, false, false, false, false, false, false, false, false, false] rfl rfl (any_of HT_.out (by kernel_rfl)) (fun _ _ _ h => h) (Or.inl ⟨by rfl, ?_⟩) ?_ ?_
    rotate_left
    · intro w'
      go_simp
      with_reducible rfl
    rotate_left
    · simp only [Act.put, List.setIfInBounds_toArray, List.set_cons_zero, List.set_cons_succ, i64_w, i32_w]
      rfl
    refine pure_ (i := 7) (N := some 18) (v := ?_) (a' := ?_) #[true, true, true, true, true, true, true, true, false, false, false, false, false, false, false, false, false, false, false, false, false, false, false, false, false, false, false, false, false, false, false, false, false, false, false, false, false, false, false, false, false, false, false] rfl rfl (any_of HT_.out (by kernel_rfl)) (fun _ _ _ h => h) (Or.inl ⟨by rfl, ?_⟩) ?_ ?_
    rotate_left
    · intro w'
      go_simp
      with_reducible rfl
    rotate_left
    · simp only [Act.put, List.setIfInBounds_toArray, List.set_cons_zero, List.set_cons_succ, i64_w, i32_w]
      rfl
    refine take_ (i := 8) (N := some 19) (v := ?_) (a' := ?_) #[true, true, true, true, true, true, true, true, true, false, false, false, false, false, false, false, false, false, false, false, false, false, false, false, false, false, false, false, false, false, false, false, false, false, false, false, false, false, false, false, false, false, false] rfl rfl (take_ofW HT_.out HW_.out (by kernel_rfl)) (fun _ _ _ h => h) (Or.inl ⟨by rfl, ?_⟩) hHeld ?_ ?_
    rotate_left
    · intro w' hS_
      obtain ⟨s0, s1, s2, s3, s4, s5, s6, s7⟩ := hS_
      go_simp
      with_reducible rfl
    rotate_left
    · simp only [Act.put, List.setIfInBounds_toArray, List.set_cons_zero, List.set_cons_succ, i64_w, i32_w]
      rfl
    refine take_ (i := 9) (N := some 20) (v := ?_) (a' := ?_) #[true, true, true, true, true, true, true, true, true, true, false, false, false, false, false, false, false, false, false, false, false, false, false, false, false, false, false, false, false, false, false, false, false, false, false, false, false, false, false, false, false, false, false] rfl rfl (take_ofW HT_.out HW_.out (by kernel_rfl)) (fun _ _ _ h => h) (Or.inl ⟨by rfl, ?_⟩) hHeld ?_ ?_
    rotate_left
    · intro w' hS_
      obtain ⟨s0, s1, s2, s3, s4, s5, s6, s7⟩ := hS_
      go_simp
      with_reducible rfl
    rotate_left
    · simp only [Act.put, List.setIfInBounds_toArray, List.set_cons_zero, List.set_cons_succ, i64_w, i32_w]
      rfl
    refine take_ (i := 11) (N := some 22) (v := ?_) (a' := ?_) #[true, true, true, true, true, true, true, true, true, true, false, true, false, false, false, false, false, false, false, false, false, false, false, false, false, false, false, false, false, false, false, false, false, false, false, false, false, false, false, false, false, false, false] rfl rfl (take_ofW HT_.out HW_.out (by kernel_rfl)) (fun _ _ _ h => h) (Or.inl ⟨by rfl, ?_⟩) hHeld ?_ ?_
    rotate_left
    · intro w' hS_
      obtain ⟨s0, s1, s2, s3, s4, s5, s6, s7⟩ := hS_
      go_simp
      with_reducible rfl
    rotate_left
    · simp only [Act.put, List.setIfInBounds_toArray, List.set_cons_zero, List.set_cons_succ, i64_w, i32_w]
      rfl
    refine take_ (i := 12) (N := some 23) (v := ?_) (a' := ?_) #[true, true, true, true, true, true, true, true, true, true, false, true, true, false, false, false, false, false, false, false, false, false, false, false, false, false, false, false, false, false, false, false, false, false, false, false, false, false, false, false, false, false, false] rfl rfl (take_ofW HT_.out HW_.out (by kernel_rfl)) (fun _ _ _ h => h) (Or.inl ⟨by rfl, ?_⟩) hHeld ?_ ?_
    rotate_left
    · intro w' hS_
      obtain ⟨s0, s1, s2, s3, s4, s5, s6, s7⟩ := hS_
      go_simp
      with_reducible rfl
    rotate_left
    · simp only [Act.put, List.setIfInBounds_toArray, List.set_cons_zero, List.set_cons_succ, i64_w, i32_w]
      rfl
    refine one_ (i := 10) (N := some 21) #[true, true, true, true, true, true, true, true, true, true, true, true, true, false, false, false, false, false, false, false, false, false, false, false, false, false, false, false, false, false, false, false, false, false, false, false, false, false, false, false, false, false, false] rfl rfl (one_of HT_.out (by kernel_rfl)) (by decide) (fun K hK => ?_)
    refine goes_ Tryd.func42 (by kernel_rfl) rfl #[.agg #[.int .u32 a0_0, .int .i64 a0_1], .agg #[.int .u32 a1_0, .int .i64 a1_1]] (by rfl) rfl rfl (by (try simp only [List.map_toArray, List.map_cons, List.map_nil]); first | done | rfl) ?_
    refine (cidr_Net_Meets.calls a0_0 a0_1 a1_0 a1_1 true _ H4.out).mono ?_
    rintro e V10 ⟨rfl, hb⟩
    refine ⟨_, rfl, ?_⟩
    have HBn := Aside0.mk (below_step HB.out hb); clear HB; have HB := HBn; clear HBn
    refine hK.out _ _ ⟨cell_keep hb (hHeld.1), cell_keep hb (hHeld.2.1), cell_keep hb (hHeld.2.2.1), cell_keep hb (hHeld.2.2.2.1), cell_keep hb (hHeld.2.2.2.2.1), cell_keep hb (hHeld.2.2.2.2.2.1), cell_keep hb (hHeld.2.2.2.2.2.2.1), cell_keep hb (hHeld.2.2.2.2.2.2.2)⟩ (fun hHeld => ?_)
    clear hK K
    refine norm_ (a' := ?_) ?_ ?_
    rotate_left
    · show Act.put _ (some 21) _ = _
      simp only [Act.put, List.setIfInBounds_toArray, List.set_cons_zero, List.set_cons_succ, i64_w, i32_w]
      rfl
    refine one_ (i := 13) (N := some 24) #[true, true, true, true, true, true, true, true, true, true, true, true, true, true, false, false, false, false, false, false, false, false, false, false, false, false, false, false, false, false, false, false, false, false, false, false, false, false, false, false, false, false, false] rfl rfl (one_of HT_.out (by kernel_rfl)) (by decide) (fun K hK => ?_)
    refine goes_ Tryd.func43 (by kernel_rfl) rfl #[.agg #[.int .u32 a0_0, .int .i64 a0_1], .agg #[.int .u32 a1_0, .int .i64 a1_1]] (by rfl) rfl rfl (by (try simp only [List.map_toArray, List.map_cons, List.map_nil]); first | done | rfl) ?_
    refine (virgateref02_Meets.calls k a0_0 a0_1 a1_0 a1_1 true _ H6.out).mono ?_
    rintro e V13 ⟨rfl, hb⟩
    refine ⟨_, rfl, ?_⟩
    have HBn := Aside0.mk (below_step HB.out hb); clear HB; have HB := HBn; clear HBn
    refine hK.out _ _ ⟨cell_keep hb (hHeld.1), cell_keep hb (hHeld.2.1), cell_keep hb (hHeld.2.2.1), cell_keep hb (hHeld.2.2.2.1), cell_keep hb (hHeld.2.2.2.2.1), cell_keep hb (hHeld.2.2.2.2.2.1), cell_keep hb (hHeld.2.2.2.2.2.2.1), cell_keep hb (hHeld.2.2.2.2.2.2.2)⟩ (fun hHeld => ?_)
    clear hK K
    refine norm_ (a' := ?_) ?_ ?_
    rotate_left
    · show Act.put _ (some 24) _ = _
      simp only [Act.put, List.setIfInBounds_toArray, List.set_cons_zero, List.set_cons_succ, i64_w, i32_w]
      rfl
    refine pure_ (i := 14) (N := some 25) (v := ?_) (a' := ?_) #[true, true, true, true, true, true, true, true, true, true, true, true, true, true, true, false, false, false, false, false, false, false, false, false, false, false, false, false, false, false, false, false, false, false, false, false, false, false, false, false, false, false, false] rfl rfl (any_of HT_.out (by kernel_rfl)) (fun _ _ _ h => h) (Or.inl ⟨by rfl, ?_⟩) ?_ ?_
    rotate_left
    · intro w'
      go_simp
      with_reducible rfl
    rotate_left
    · simp only [Act.put, List.setIfInBounds_toArray, List.set_cons_zero, List.set_cons_succ, i64_w, i32_w]
      rfl
    refine pure_ (i := 15) (N := some 26) (v := ?_) (a' := ?_) #[true, true, true, true, true, true, true, true, true, true, true, true, true, true, true, true, false, false, false, false, false, false, false, false, false, false, false, false, false, false, false, false, false, false, false, false, false, false, false, false, false, false, false] rfl rfl (any_of HT_.out (by kernel_rfl)) (fun _ _ _ h => h) (Or.inl ⟨by rfl, ?_⟩) ?_ ?_
    rotate_left
    · intro w'
      go_simp
      with_reducible rfl
    rotate_left
    · simp only [Act.put, List.setIfInBounds_toArray, List.set_cons_zero, List.set_cons_succ, i64_w, i32_w]
      rfl
    refine pure_ (i := 16) (N := some 27) (v := ?_) (a' := ?_) #[true, true, true, true, true, true, true, true, true, true, true, true, true, true, true, true, true, false, false, false, false, false, false, false, false, false, false, false, false, false, false, false, false, false, false, false, false, false, false, false, false, false, false] rfl rfl (any_of HT_.out (by kernel_rfl)) (fun _ _ _ h => h) (Or.inl ⟨by rfl, ?_⟩) ?_ ?_
    rotate_left
    · intro w'
      go_simp
      with_reducible rfl
    rotate_left
    · simp only [Act.put, List.setIfInBounds_toArray, List.set_cons_zero, List.set_cons_succ, i64_w, i32_w]
      rfl
    refine take_ (i := 17) (N := some 28) (v := ?_) (a' := ?_) #[true, true, true, true, true, true, true, true, true, true, true, true, true, true, true, true, true, true, false, false, false, false, false, false, false, false, false, false, false, false, false, false, false, false, false, false, false, false, false, false, false, false, false] rfl rfl (take_ofW HT_.out HW_.out (by kernel_rfl)) (fun _ _ _ h => h) (Or.inl ⟨by rfl, ?_⟩) hHeld ?_ ?_
    rotate_left
    · intro w' hS_
      obtain ⟨s0, s1, s2, s3, s4, s5, s6, s7⟩ := hS_
      go_simp
      with_reducible rfl
    rotate_left
    · simp only [Act.put, List.setIfInBounds_toArray, List.set_cons_zero, List.set_cons_succ, i64_w, i32_w]
      rfl
    refine take_ (i := 18) (N := some 29) (v := ?_) (a' := ?_) #[true, true, true, true, true, true, true, true, true, true, true, true, true, true, true, true, true, true, true, false, false, false, false, false, false, false, false, false, false, false, false, false, false, false, false, false, false, false, false, false, false, false, false] rfl rfl (take_ofW HT_.out HW_.out (by kernel_rfl)) (fun _ _ _ h => h) (Or.inl ⟨by rfl, ?_⟩) hHeld ?_ ?_
    rotate_left
    · intro w' hS_
      obtain ⟨s0, s1, s2, s3, s4, s5, s6, s7⟩ := hS_
      go_simp
      with_reducible rfl
    rotate_left
    · simp only [Act.put, List.setIfInBounds_toArray, List.set_cons_zero, List.set_cons_succ, i64_w, i32_w]
      rfl
    refine take_ (i := 20) (N := some 31) (v := ?_) (a' := ?_) #[true, true, true, true, true, true, true, true, true, true, true, true, true, true, true, true, true, true, true, false, true, false, false, false, false, false, false, false, false, false, false, false, false, false, false, false, false, false, false, false, false, false, false] rfl rfl (take_ofW HT_.out HW_.out (by kernel_rfl)) (fun _ _ _ h => h) (Or.inl ⟨by rfl, ?_⟩) hHeld ?_ ?_
    rotate_left
    · intro w' hS_
      obtain ⟨s0, s1, s2, s3, s4, s5, s6, s7⟩ := hS_
      go_simp
      with_reducible rfl
    rotate_left
    · simp only [Act.put, List.setIfInBounds_toArray, List.set_cons_zero, List.set_cons_succ, i64_w, i32_w]
      rfl
    refine take_ (i := 21) (N := some 32) (v := ?_) (a' := ?_) #[true, true, true, true, true, true, true, true, true, true, true, true, true, true, true, true, true, true, true, false, true, true, false, false, false, false, false, false, false, false, false, false, false, false, false, false, false, false, false, false, false, false, false] rfl rfl (take_ofW HT_.out HW_.out (by kernel_rfl)) (fun _ _ _ h => h) (Or.inl ⟨by rfl, ?_⟩) hHeld ?_ ?_
    rotate_left
    · intro w' hS_
      obtain ⟨s0, s1, s2, s3, s4, s5, s6, s7⟩ := hS_
      go_simp
      with_reducible rfl
    rotate_left
    · simp only [Act.put, List.setIfInBounds_toArray, List.set_cons_zero, List.set_cons_succ, i64_w, i32_w]
      rfl
    refine one_ (i := 19) (N := some 30) #[true, true, true, true, true, true, true, true, true, true, true, true, true, true, true, true, true, true, true, true, true, true, false, false, false, false, false, false, false, false, false, false, false, false, false, false, false, false, false, false, false, false, false] rfl rfl (one_of HT_.out (by kernel_rfl)) (by decide) (fun K hK => ?_)
    refine goes_ Tryd.func42 (by kernel_rfl) rfl #[.agg #[.int .u32 a0_0, .int .i64 a0_1], .agg #[.int .u32 a1_0, .int .i64 a1_1]] (by rfl) rfl rfl (by (try simp only [List.map_toArray, List.map_cons, List.map_nil]); first | done | rfl) ?_
    refine (cidr_Net_Meets.calls a0_0 a0_1 a1_0 a1_1 true _ H4.out).mono ?_
    rintro e V19 ⟨rfl, hb⟩
    refine ⟨_, rfl, ?_⟩
    have HBn := Aside0.mk (below_step HB.out hb); clear HB; have HB := HBn; clear HBn
    refine hK.out _ _ ⟨cell_keep hb (hHeld.1), cell_keep hb (hHeld.2.1), cell_keep hb (hHeld.2.2.1), cell_keep hb (hHeld.2.2.2.1), cell_keep hb (hHeld.2.2.2.2.1), cell_keep hb (hHeld.2.2.2.2.2.1), cell_keep hb (hHeld.2.2.2.2.2.2.1), cell_keep hb (hHeld.2.2.2.2.2.2.2)⟩ (fun hHeld => ?_)
    clear hK K
    refine norm_ (a' := ?_) ?_ ?_
    rotate_left
    · show Act.put _ (some 30) _ = _
      simp only [Act.put, List.setIfInBounds_toArray, List.set_cons_zero, List.set_cons_succ, i64_w, i32_w]
      rfl
    refine one_ (i := 22) (N := some 33) #[true, true, true, true, true, true, true, true, true, true, true, true, true, true, true, true, true, true, true, true, true, true, true, false, false, false, false, false, false, false, false, false, false, false, false, false, false, false, false, false, false, false, false] rfl rfl (one_of HT_.out (by kernel_rfl)) (by decide) (fun K hK => ?_)
    refine goes_ Tryd.func40 (by kernel_rfl) rfl #[.agg #[.int .u32 a0_0, .int .i64 a0_1], .agg #[.int .u32 a1_0, .int .i64 a1_1]] (by rfl) rfl rfl (by (try simp only [List.map_toArray, List.map_cons, List.map_nil]); first | done | rfl) ?_
    refine (cidr_Net_Covers.calls a0_0 a0_1 a1_0 a1_1 true _ H1.out).mono ?_
    rintro e V22 ⟨rfl, hb⟩
    refine ⟨_, rfl, ?_⟩
    have HBn := Aside0.mk (below_step HB.out hb); clear HB; have HB := HBn; clear HBn
    refine hK.out _ _ ⟨cell_keep hb (hHeld.1), cell_keep hb (hHeld.2.1), cell_keep hb (hHeld.2.2.1), cell_keep hb (hHeld.2.2.2.1), cell_keep hb (hHeld.2.2.2.2.1), cell_keep hb (hHeld.2.2.2.2.2.1), cell_keep hb (hHeld.2.2.2.2.2.2.1), cell_keep hb (hHeld.2.2.2.2.2.2.2)⟩ (fun hHeld => ?_)
    clear hK K
    refine norm_ (a' := ?_) ?_ ?_
    rotate_left
    · show Act.put _ (some 33) _ = _
      simp only [Act.put, List.setIfInBounds_toArray, List.set_cons_zero, List.set_cons_succ, i64_w, i32_w]
      rfl
    refine pure_ (i := 23) (N := some 34) (v := ?_) (a' := ?_) #[true, true, true, true, true, true, true, true, true, true, true, true, true, true, true, true, true, true, true, true, true, true, true, true, false, false, false, false, false, false, false, false, false, false, false, false, false, false, false, false, false, false, false] rfl rfl (any_of HT_.out (by kernel_rfl)) (fun _ _ _ h => h) (Or.inl ⟨by rfl, ?_⟩) ?_ ?_
    rotate_left
    · intro w'
      go_simp
      with_reducible rfl
    rotate_left
    · simp only [Act.put, List.setIfInBounds_toArray, List.set_cons_zero, List.set_cons_succ, i64_w, i32_w]
      rfl
    refine pure_ (i := 24) (N := some 35) (v := undef) (a' := ?_) #[true, true, true, true, true, true, true, true, true, true, true, true, true, true, true, true, true, true, true, true, true, true, true, true, true, false, false, false, false, false, false, false, false, false, false, false, false, false, false, false, false, false, false] rfl rfl (any_of HT_.out (by kernel_rfl)) (fun _ _ _ h => h) (Or.inr ⟨by rfl, rfl⟩) ?_ ?_
    rotate_left
    · simp only [Act.put, List.setIfInBounds_toArray, List.set_cons_zero, List.set_cons_succ, i64_w, i32_w]
      rfl
    refine pure_ (i := 25) (N := some 36) (v := undef) (a' := ?_) #[true, true, true, true, true, true, true, true, true, true, true, true, true, true, true, true, true, true, true, true, true, true, true, true, true, true, false, false, false, false, false, false, false, false, false, false, false, false, false, false, false, false, false] rfl rfl (any_of HT_.out (by kernel_rfl)) (fun _ _ _ h => h) (Or.inr ⟨by rfl, rfl⟩) ?_ ?_
    rotate_left
    · simp only [Act.put, List.setIfInBounds_toArray, List.set_cons_zero, List.set_cons_succ, i64_w, i32_w]
      rfl
    refine pure_ (i := 26) (N := some 37) (v := undef) (a' := ?_) #[true, true, true, true, true, true, true, true, true, true, true, true, true, true, true, true, true, true, true, true, true, true, true, true, true, true, true, false, false, false, false, false, false, false, false, false, false, false, false, false, false, false, false] rfl rfl (any_of HT_.out (by kernel_rfl)) (fun _ _ _ h => h) (Or.inr ⟨by rfl, rfl⟩) ?_ ?_
    rotate_left
    · simp only [Act.put, List.setIfInBounds_toArray, List.set_cons_zero, List.set_cons_succ, i64_w, i32_w]
      rfl
    refine pure_ (i := 27) (N := some 38) (v := ?_) (a' := ?_) #[true, true, true, true, true, true, true, true, true, true, true, true, true, true, true, true, true, true, true, true, true, true, true, true, true, true, true, true, false, false, false, false, false, false, false, false, false, false, false, false, false, false, false] rfl rfl (any_of HT_.out (by kernel_rfl)) (fun _ _ _ h => h) (Or.inl ⟨by rfl, ?_⟩) ?_ ?_
    rotate_left
    · intro w'
      go_simp
      with_reducible rfl
    rotate_left
    · simp only [Act.put, List.setIfInBounds_toArray, List.set_cons_zero, List.set_cons_succ, i64_w, i32_w]
      rfl
    refine pure_ (i := 28) (N := some 39) (v := ?_) (a' := ?_) #[true, true, true, true, true, true, true, true, true, true, true, true, true, true, true, true, true, true, true, true, true, true, true, true, true, true, true, true, true, false, false, false, false, false, false, false, false, false, false, false, false, false, false] rfl rfl (any_of HT_.out (by kernel_rfl)) (fun _ _ _ h => h) (Or.inl ⟨by rfl, ?_⟩) ?_ ?_
    rotate_left
    · intro w'
      go_simp
      with_reducible rfl
    rotate_left
    · simp only [Act.put, List.setIfInBounds_toArray, List.set_cons_zero, List.set_cons_succ, i64_w, i32_w]
      rfl
    refine pure_ (i := 29) (N := some 40) (v := ?_) (a' := ?_) #[true, true, true, true, true, true, true, true, true, true, true, true, true, true, true, true, true, true, true, true, true, true, true, true, true, true, true, true, true, true, false, false, false, false, false, false, false, false, false, false, false, false, false] rfl rfl (any_of HT_.out (by kernel_rfl)) (fun _ _ _ h => h) (Or.inl ⟨by rfl, ?_⟩) ?_ ?_
    rotate_left
    · intro w'
      go_simp
      with_reducible rfl
    rotate_left
    · simp only [Act.put, List.setIfInBounds_toArray, List.set_cons_zero, List.set_cons_succ, i64_w, i32_w]
      rfl
    refine pure_ (i := 30) (N := some 41) (v := ?_) (a' := ?_) #[true, true, true, true, true, true, true, true, true, true, true, true, true, true, true, true, true, true, true, true, true, true, true, true, true, true, true, true, true, true, true, false, false, false, false, false, false, false, false, false, false, false, false] rfl rfl (any_of HT_.out (by kernel_rfl)) (fun _ _ _ h => h) (Or.inl ⟨by rfl, ?_⟩) ?_ ?_
    rotate_left
    · intro w'
      go_simp
      with_reducible rfl
    rotate_left
    · simp only [Act.put, List.setIfInBounds_toArray, List.set_cons_zero, List.set_cons_succ, i64_w, i32_w]
      rfl
    refine take_ (i := 31) (N := some 42) (v := ?_) (a' := ?_) #[true, true, true, true, true, true, true, true, true, true, true, true, true, true, true, true, true, true, true, true, true, true, true, true, true, true, true, true, true, true, true, true, false, false, false, false, false, false, false, false, false, false, false] rfl rfl (take_ofW HT_.out HW_.out (by kernel_rfl)) (fun _ _ _ h => h) (Or.inl ⟨by rfl, ?_⟩) hHeld ?_ ?_
    rotate_left
    · intro w' hS_
      obtain ⟨s0, s1, s2, s3, s4, s5, s6, s7⟩ := hS_
      go_simp
      with_reducible rfl
    rotate_left
    · simp only [Act.put, List.setIfInBounds_toArray, List.set_cons_zero, List.set_cons_succ, i64_w, i32_w]
      rfl
    refine take_ (i := 32) (N := some 43) (v := ?_) (a' := ?_) #[true, true, true, true, true, true, true, true, true, true, true, true, true, true, true, true, true, true, true, true, true, true, true, true, true, true, true, true, true, true, true, true, true, false, false, false, false, false, false, false, false, false, false] rfl rfl (take_ofW HT_.out HW_.out (by kernel_rfl)) (fun _ _ _ h => h) (Or.inl ⟨by rfl, ?_⟩) hHeld ?_ ?_
    rotate_left
    · intro w' hS_
      obtain ⟨s0, s1, s2, s3, s4, s5, s6, s7⟩ := hS_
      go_simp
      with_reducible rfl
    rotate_left
    · simp only [Act.put, List.setIfInBounds_toArray, List.set_cons_zero, List.set_cons_succ, i64_w, i32_w]
      rfl
    refine take_ (i := 34) (N := some 45) (v := ?_) (a' := ?_) #[true, true, true, true, true, true, true, true, true, true, true, true, true, true, true, true, true, true, true, true, true, true, true, true, true, true, true, true, true, true, true, true, true, false, true, false, false, false, false, false, false, false, false] rfl rfl (take_ofW HT_.out HW_.out (by kernel_rfl)) (fun _ _ _ h => h) (Or.inl ⟨by rfl, ?_⟩) hHeld ?_ ?_
    rotate_left
    · intro w' hS_
      obtain ⟨s0, s1, s2, s3, s4, s5, s6, s7⟩ := hS_
      go_simp
      with_reducible rfl
    rotate_left
    · simp only [Act.put, List.setIfInBounds_toArray, List.set_cons_zero, List.set_cons_succ, i64_w, i32_w]
      rfl
    refine take_ (i := 35) (N := some 46) (v := ?_) (a' := ?_) #[true, true, true, true, true, true, true, true, true, true, true, true, true, true, true, true, true, true, true, true, true, true, true, true, true, true, true, true, true, true, true, true, true, false, true, true, false, false, false, false, false, false, false] rfl rfl (take_ofW HT_.out HW_.out (by kernel_rfl)) (fun _ _ _ h => h) (Or.inl ⟨by rfl, ?_⟩) hHeld ?_ ?_
    rotate_left
    · intro w' hS_
      obtain ⟨s0, s1, s2, s3, s4, s5, s6, s7⟩ := hS_
      go_simp
      with_reducible rfl
    rotate_left
    · simp only [Act.put, List.setIfInBounds_toArray, List.set_cons_zero, List.set_cons_succ, i64_w, i32_w]
      rfl
    refine one_ (i := 33) (N := some 44) #[true, true, true, true, true, true, true, true, true, true, true, true, true, true, true, true, true, true, true, true, true, true, true, true, true, true, true, true, true, true, true, true, true, true, true, true, false, false, false, false, false, false, false] rfl rfl (one_of HT_.out (by kernel_rfl)) (by decide) (fun K hK => ?_)
    refine goes_ Tryd.func42 (by kernel_rfl) rfl #[.agg #[.int .u32 a0_0, .int .i64 a0_1], .agg #[.int .u32 a1_0, .int .i64 a1_1]] (by rfl) rfl rfl (by (try simp only [List.map_toArray, List.map_cons, List.map_nil]); first | done | rfl) ?_
    refine (cidr_Net_Meets.calls a0_0 a0_1 a1_0 a1_1 true _ H4.out).mono ?_
    rintro e V33 ⟨rfl, hb⟩
    refine ⟨_, rfl, ?_⟩
    have HBn := Aside0.mk (below_step HB.out hb); clear HB; have HB := HBn; clear HBn
    refine hK.out _ _ ⟨cell_keep hb (hHeld.1), cell_keep hb (hHeld.2.1), cell_keep hb (hHeld.2.2.1), cell_keep hb (hHeld.2.2.2.1), cell_keep hb (hHeld.2.2.2.2.1), cell_keep hb (hHeld.2.2.2.2.2.1), cell_keep hb (hHeld.2.2.2.2.2.2.1), cell_keep hb (hHeld.2.2.2.2.2.2.2)⟩ (fun hHeld => ?_)
    clear hK K
    refine norm_ (a' := ?_) ?_ ?_
    rotate_left
    · show Act.put _ (some 44) _ = _
      simp only [Act.put, List.setIfInBounds_toArray, List.set_cons_zero, List.set_cons_succ, i64_w, i32_w]
      rfl
    refine one_ (i := 36) (N := some 47) #[true, true, true, true, true, true, true, true, true, true, true, true, true, true, true, true, true, true, true, true, true, true, true, true, true, true, true, true, true, true, true, true, true, true, true, true, true, false, false, false, false, false, false] rfl rfl (one_of HT_.out (by kernel_rfl)) (by decide) (fun K hK => ?_)
    refine goes_ Tryd.func42 (by kernel_rfl) rfl #[.agg #[.int .u32 a1_0, .int .i64 a1_1], .agg #[.int .u32 a0_0, .int .i64 a0_1]] (by rfl) rfl rfl (by (try simp only [List.map_toArray, List.map_cons, List.map_nil]); first | done | rfl) ?_
    refine (cidr_Net_Meets.calls a1_0 a1_1 a0_0 a0_1 true _ H5.out).mono ?_
    rintro e V36 ⟨rfl, hb⟩
    refine ⟨_, rfl, ?_⟩
    have HBn := Aside0.mk (below_step HB.out hb); clear HB; have HB := HBn; clear HBn
    refine hK.out _ _ ⟨cell_keep hb (hHeld.1), cell_keep hb (hHeld.2.1), cell_keep hb (hHeld.2.2.1), cell_keep hb (hHeld.2.2.2.1), cell_keep hb (hHeld.2.2.2.2.1), cell_keep hb (hHeld.2.2.2.2.2.1), cell_keep hb (hHeld.2.2.2.2.2.2.1), cell_keep hb (hHeld.2.2.2.2.2.2.2)⟩ (fun hHeld => ?_)
    clear hK K
    refine norm_ (a' := ?_) ?_ ?_
    rotate_left
    · show Act.put _ (some 47) _ = _
      simp only [Act.put, List.setIfInBounds_toArray, List.set_cons_zero, List.set_cons_succ, i64_w, i32_w]
      rfl
    refine pure_ (i := 37) (N := some 48) (v := ?_) (a' := ?_) #[true, true, true, true, true, true, true, true, true, true, true, true, true, true, true, true, true, true, true, true, true, true, true, true, true, true, true, true, true, true, true, true, true, true, true, true, true, true, false, false, false, false, false] rfl rfl (any_of HT_.out (by kernel_rfl)) (fun _ _ _ h => h) (Or.inl ⟨by rfl, ?_⟩) ?_ ?_
    rotate_left
    · intro w'
      go_simp
      with_reducible rfl
    rotate_left
    · simp only [Act.put, List.setIfInBounds_toArray, List.set_cons_zero, List.set_cons_succ, i64_w, i32_w]
      rfl
    refine pure_ (i := 38) (N := some 49) (v := ?_) (a' := ?_) #[true, true, true, true, true, true, true, true, true, true, true, true, true, true, true, true, true, true, true, true, true, true, true, true, true, true, true, true, true, true, true, true, true, true, true, true, true, true, true, false, false, false, false] rfl rfl (any_of HT_.out (by kernel_rfl)) (fun _ _ _ h => h) (Or.inl ⟨by rfl, ?_⟩) ?_ ?_
    rotate_left
    · intro w'
      go_simp
      with_reducible rfl
    rotate_left
    · simp only [Act.put, List.setIfInBounds_toArray, List.set_cons_zero, List.set_cons_succ, i64_w, i32_w]
      rfl
    refine pure_ (i := 39) (N := some 50) (v := ?_) (a' := ?_) #[true, true, true, true, true, true, true, true, true, true, true, true, true, true, true, true, true, true, true, true, true, true, true, true, true, true, true, true, true, true, true, true, true, true, true, true, true, true, true, true, false, false, false] rfl rfl (any_of HT_.out (by kernel_rfl)) (fun _ _ _ h => h) (Or.inl ⟨by rfl, ?_⟩) ?_ ?_
    rotate_left
    · intro w'
      go_simp
      with_reducible rfl
    rotate_left
    · simp only [Act.put, List.setIfInBounds_toArray, List.set_cons_zero, List.set_cons_succ, i64_w, i32_w]
      rfl
    refine one_ (i := 40) (N := some 51) #[true, true, true, true, true, true, true, true, true, true, true, true, true, true, true, true, true, true, true, true, true, true, true, true, true, true, true, true, true, true, true, true, true, true, true, true, true, true, true, true, true, false, false] rfl rfl (one_of HT_.out (by kernel_rfl)) (by decide) (fun K hK => ?_)
    refine goes_ Tryd.func38 (by kernel_rfl) rfl #[] (by rfl) rfl rfl (by (try simp only [List.map_toArray, List.map_cons, List.map_nil]); first | done | rfl) ?_
    refine (virgatelaw02_awake.calls k true _ (awake02_f k hk)).mono ?_
    rintro e V40 ⟨rfl, hb⟩
    refine ⟨_, rfl, ?_⟩
    have HBn := Aside0.mk (below_step HB.out hb); clear HB; have HB := HBn; clear HBn
    refine hK.out _ _ ⟨cell_keep hb (hHeld.1), cell_keep hb (hHeld.2.1), cell_keep hb (hHeld.2.2.1), cell_keep hb (hHeld.2.2.2.1), cell_keep hb (hHeld.2.2.2.2.1), cell_keep hb (hHeld.2.2.2.2.2.1), cell_keep hb (hHeld.2.2.2.2.2.2.1), cell_keep hb (hHeld.2.2.2.2.2.2.2)⟩ (fun hHeld => ?_)
    clear hK K
    refine norm_ (a' := ?_) ?_ ?_
    rotate_left
    · show Act.put _ (some 51) _ = _
      simp only [Act.put, List.setIfInBounds_toArray, List.set_cons_zero, List.set_cons_succ, i64_w, i32_w]
      rfl
    refine pure_ (i := 41) (N := some 52) (v := ?_) (a' := ?_) #[true, true, true, true, true, true, true, true, true, true, true, true, true, true, true, true, true, true, true, true, true, true, true, true, true, true, true, true, true, true, true, true, true, true, true, true, true, true, true, true, true, true, false] rfl rfl (any_of HT_.out (by kernel_rfl)) (fun _ _ _ h => h) (Or.inl ⟨by rfl, ?_⟩) ?_ ?_
    rotate_left
    · intro w'
      go_simp
      with_reducible rfl
    rotate_left
    · simp only [Act.put, List.setIfInBounds_toArray, List.set_cons_zero, List.set_cons_succ, i64_w, i32_w]
      rfl
    refine pure_ (i := 42) (N := some 4) (v := ?_) (a' := ?_) #[true, true, true, true, true, true, true, true, true, true, true, true, true, true, true, true, true, true, true, true, true, true, true, true, true, true, true, true, true, true, true, true, true, true, true, true, true, true, true, true, true, true, true] rfl rfl (any_of HT_.out (by kernel_rfl)) (fun _ _ _ h => h) (Or.inl ⟨by rfl, ?_⟩) ?_ ?_
    rotate_left
    · intro w'
      go_simp
      with_reducible rfl
    rotate_left
    · simp only [Act.put, List.setIfInBounds_toArray, List.set_cons_zero, List.set_cons_succ, i64_w, i32_w]
      rfl
    refine done_ (done_of HT_.out (by kernel_rfl)) ?_
    try go_wp2
    go_ret
    exact ⟨rfl, HB.out⟩
  | false =>
    refine start_ (n := 43) (S := fun w' => w'.cell? ⟨gb10107, 0, none⟩ = some (.int .u32 a0_0) ∧ w'.cell? ⟨gb10107, 1, none⟩ = some (.int .i64 a0_1) ∧ w'.cell? ⟨gb10108, 0, none⟩ = some (.int .u32 a1_0) ∧ w'.cell? ⟨gb10108, 1, none⟩ = some (.int .i64 a1_1) ∧ w'.cell? ⟨gb10101, 0, none⟩ = some (.int .u32 a0_0) ∧ w'.cell? ⟨gb10101, 1, none⟩ = some (.int .i64 a0_1) ∧ w'.cell? ⟨gb10102, 0, none⟩ = some (.int .u32 a1_0) ∧ w'.cell? ⟨gb10102, 1, none⟩ = some (.int .i64 a1_1)) (ds := []) #[false, false, false, false, false, false, false, false, false, false, false, false, false, false, false, false, false, false, false, false, false, false, false, false, false, false, false, false, false, false, false, false, false, false, false, false, false, false, false, false, false, false, false] (by kernel_rfl) rfl rfl ⟨(blk_cell BK10107.out 0).trans rfl, (blk_cell BK10107.out 1).trans rfl, (blk_cell BK10108.out 0).trans rfl, (blk_cell BK10108.out 1).trans rfl, (blk_cell BK10101.out 0).trans rfl, (blk_cell BK10101.out 1).trans rfl, (blk_cell BK10102.out 0).trans rfl, (blk_cell BK10102.out 1).trans rfl⟩ (fun hHeld => ?_); refine with_tabW cidrCovers2.tab2 cidrCovers2.bits2 (fun HT_ HW_ => ?_)
    refine take_ (i := 0) (N := some 11) (v := ?_) (a' := ?_) #[true, false, false, false, false, false, false, false, false, false, false, false, false, false, false, false, false, false, false, false, false, false, false, false, false, false, false, false, false, false, false, false, false, false, false, false, false, false, false, false, false, false, false] rfl rfl (take_ofW HT_.out HW_.out (by kernel_rfl)) (fun _ _ _ h => h) (Or.inl ⟨by rfl, ?_⟩) hHeld ?_ ?_
    rotate_left
    · intro w' hS_
      obtain ⟨s0, s1, s2, s3, s4, s5, s6, s7⟩ := hS_
      go_simp
      with_reducible rfl
    rotate_left
    · simp only [Act.put, List.setIfInBounds_toArray, List.set_cons_zero, List.set_cons_succ, i64_w, i32_w]
      rfl
    refine take_ (i := 1) (N := some 12) (v := ?_) (a' := ?_) #[true, true, false, false, false, false, false, false, false, false, false, false, false, false, false, false, false, false, false, false, false, false, false, false, false, false, false, false, false, false, false, false, false, false, false, false, false, false, false, false, false, false, false] rfl rfl (take_ofW HT_.out HW_.out (by kernel_rfl)) (fun _ _ _ h => h) (Or.inl ⟨by rfl, ?_⟩) hHeld ?_ ?_
    rotate_left
    · intro w' hS_
      obtain ⟨s0, s1, s2, s3, s4, s5, s6, s7⟩ := hS_
      go_simp
      with_reducible rfl
    rotate_left
    · simp only [Act.put, List.setIfInBounds_toArray, List.set_cons_zero, List.set_cons_succ, i64_w, i32_w]
      rfl
    refine take_ (i := 3) (N := some 14) (v := ?_) (a' := ?_) #[true, true, false, true, false, false, false, false, false, false, false, false, false, false, false, false, false, false, false, false, false, false, false, false, false, false, false, false, false, false, false, false, false, false, false, false, false, false, false, false, false, false, false] rfl rfl (take_ofW HT_.out HW_.out (by kernel_rfl)) (fun _ _ _ h => h) (Or.inl ⟨by rfl, ?_⟩) hHeld ?_ ?_
    rotate_left
    · intro w' hS_
      obtain ⟨s0, s1, s2, s3, s4, s5, s6, s7⟩ := hS_
      go_simp
      with_reducible rfl
    rotate_left
    · simp only [Act.put, List.setIfInBounds_toArray, List.set_cons_zero, List.set_cons_succ, i64_w, i32_w]
      rfl
    refine take_ (i := 4) (N := some 15) (v := ?_) (a' := ?_) #[true, true, false, true, true, false, false, false, false, false, false, false, false, false, false, false, false, false, false, false, false, false, false, false, false, false, false, false, false, false, false, false, false, false, false, false, false, false, false, false, false, false, false] rfl rfl (take_ofW HT_.out HW_.out (by kernel_rfl)) (fun _ _ _ h => h) (Or.inl ⟨by rfl, ?_⟩) hHeld ?_ ?_
    rotate_left
    · intro w' hS_
      obtain ⟨s0, s1, s2, s3, s4, s5, s6, s7⟩ := hS_
      go_simp
      with_reducible rfl
    rotate_left
    · simp only [Act.put, List.setIfInBounds_toArray, List.set_cons_zero, List.set_cons_succ, i64_w, i32_w]
      rfl
    refine one_ (i := 2) (N := some 13) #[true, true, true, true, true, false, false, false, false, false, false, false, false, false, false, false, false, false, false, false, false, false, false, false, false, false, false, false, false, false, false, false, false, false, false, false, false, false, false, false, false, false, false] rfl rfl (one_of HT_.out (by kernel_rfl)) (by decide) (fun K hK => ?_)
    refine goes_ Tryd.func40 (by kernel_rfl) rfl #[.agg #[.int .u32 a0_0, .int .i64 a0_1], .agg #[.int .u32 a1_0, .int .i64 a1_1]] (by rfl) rfl rfl (by (try simp only [List.map_toArray, List.map_cons, List.map_nil]); first | done | rfl) ?_
    refine (cidr_Net_Covers.calls a0_0 a0_1 a1_0 a1_1 false _ H1.out).mono ?_
    rintro e V2 ⟨rfl, hb⟩
    refine ⟨_, rfl, ?_⟩
    have HBn := Aside0.mk (below_step HB.out hb); clear HB; have HB := HBn; clear HBn
    refine hK.out _ _ ⟨cell_keep hb (hHeld.1), cell_keep hb (hHeld.2.1), cell_keep hb (hHeld.2.2.1), cell_keep hb (hHeld.2.2.2.1), cell_keep hb (hHeld.2.2.2.2.1), cell_keep hb (hHeld.2.2.2.2.2.1), cell_keep hb (hHeld.2.2.2.2.2.2.1), cell_keep hb (hHeld.2.2.2.2.2.2.2)⟩ (fun hHeld => ?_)
    clear hK K
    refine norm_ (a' := ?_) ?_ ?_
    rotate_left
    · show Act.put _ (some 13) _ = _
      simp only [Act.put, List.setIfInBounds_toArray, List.set_cons_zero, List.set_cons_succ, i64_w, i32_w]
      rfl
    refine one_ (i := 5) (N := some 16) #[true, true, true, true, true, true, false, false, false, false, false, false, false, false, false, false, false, false, false, false, false, false, false, false, false, false, false, false, false, false, false, false, false, false, false, false, false, false, false, false, false, false, false] rfl rfl (one_of HT_.out (by kernel_rfl)) (by decide) (fun K hK => ?_)
    refine goes_ Tryd.func41 (by kernel_rfl) rfl #[.agg #[.int .u32 a0_0, .int .i64 a0_1], .agg #[.int .u32 a1_0, .int .i64 a1_1]] (by rfl) rfl rfl (by (try simp only [List.map_toArray, List.map_cons, List.map_nil]); first | done | rfl) ?_
    refine (virgateref02_Covers.calls k a0_0 a0_1 a1_0 a1_1 false _ H3.out).mono ?_
    rintro e V5 ⟨rfl, hb⟩
    refine ⟨_, rfl, ?_⟩
    have HBn := Aside0.mk (below_step HB.out hb); clear HB; have HB := HBn; clear HBn
    refine hK.out _ _ ⟨cell_keep hb (hHeld.1), cell_keep hb (hHeld.2.1), cell_keep hb (hHeld.2.2.1), cell_keep hb (hHeld.2.2.2.1), cell_keep hb (hHeld.2.2.2.2.1), cell_keep hb (hHeld.2.2.2.2.2.1), cell_keep hb (hHeld.2.2.2.2.2.2.1), cell_keep hb (hHeld.2.2.2.2.2.2.2)⟩ (fun hHeld => ?_)
    clear hK K
    refine norm_ (a' := ?_) ?_ ?_
    rotate_left
    · show Act.put _ (some 16) _ = _
      simp only [Act.put, List.setIfInBounds_toArray, List.set_cons_zero, List.set_cons_succ, i64_w, i32_w]
      rfl
    refine pure_ (i := 6) (N := some 17) (v := ?_) (a' := ?_) #[true, true, true, true, true, true, true, false, false, false, false, false, false, false, false, false, false, false, false, false, false, false, false, false, false, false, false, false, false, false, false, false, false, false, false, false, false, false, false, false, false, false, false] rfl rfl (any_of HT_.out (by kernel_rfl)) (fun _ _ _ h => h) (Or.inl ⟨by rfl, ?_⟩) ?_ ?_
    rotate_left
    · intro w'
      go_simp
      with_reducible rfl
    rotate_left
    · simp only [Act.put, List.setIfInBounds_toArray, List.set_cons_zero, List.set_cons_succ, i64_w, i32_w]
      rfl
    refine pure_ (i := 7) (N := some 18) (v := ?_) (a' := ?_) #[true, true, true, true, true, true, true, true, false, false, false, false, false, false, false, false, false, false, false, false, false, false, false, false, false, false, false, false, false, false, false, false, false, false, false, false, false, false, false, false, false, false, false] rfl rfl (any_of HT_.out (by kernel_rfl)) (fun _ _ _ h => h) (Or.inl ⟨by rfl, ?_⟩) ?_ ?_
    rotate_left
    · intro w'
      go_simp
      with_reducible rfl
    rotate_left
    · simp only [Act.put, List.setIfInBounds_toArray, List.set_cons_zero, List.set_cons_succ, i64_w, i32_w]
      rfl
    refine take_ (i := 8) (N := some 19) (v := ?_) (a' := ?_) #[true, true, true, true, true, true, true, true, true, false, false, false, false, false, false, false, false, false, false, false, false, false, false, false, false, false, false, false, false, false, false, false, false, false, false, false, false, false, false, false, false, false, false] rfl rfl (take_ofW HT_.out HW_.out (by kernel_rfl)) (fun _ _ _ h => h) (Or.inl ⟨by rfl, ?_⟩) hHeld ?_ ?_
    rotate_left
    · intro w' hS_
      obtain ⟨s0, s1, s2, s3, s4, s5, s6, s7⟩ := hS_
      go_simp
      with_reducible rfl
    rotate_left
    · simp only [Act.put, List.setIfInBounds_toArray, List.set_cons_zero, List.set_cons_succ, i64_w, i32_w]
      rfl
    refine take_ (i := 9) (N := some 20) (v := ?_) (a' := ?_) #[true, true, true, true, true, true, true, true, true, true, false, false, false, false, false, false, false, false, false, false, false, false, false, false, false, false, false, false, false, false, false, false, false, false, false, false, false, false, false, false, false, false, false] rfl rfl (take_ofW HT_.out HW_.out (by kernel_rfl)) (fun _ _ _ h => h) (Or.inl ⟨by rfl, ?_⟩) hHeld ?_ ?_
    rotate_left
    · intro w' hS_
      obtain ⟨s0, s1, s2, s3, s4, s5, s6, s7⟩ := hS_
      go_simp
      with_reducible rfl
    rotate_left
    · simp only [Act.put, List.setIfInBounds_toArray, List.set_cons_zero, List.set_cons_succ, i64_w, i32_w]
      rfl
    refine take_ (i := 11) (N := some 22) (v := ?_) (a' := ?_) #[true, true, true, true, true, true, true, true, true, true, false, true, false, false, false, false, false, false, false, false, false, false, false, false, false, false, false, false, false, false, false, false, false, false, false, false, false, false, false, false, false, false, false] rfl rfl (take_ofW HT_.out HW_.out (by kernel_rfl)) (fun _ _ _ h => h) (Or.inl ⟨by rfl, ?_⟩) hHeld ?_ ?_
    rotate_left
    · intro w' hS_
      obtain ⟨s0, s1, s2, s3, s4, s5, s6, s7⟩ := hS_
      go_simp
      with_reducible rfl
    rotate_left
    · simp only [Act.put, List.setIfInBounds_toArray, List.set_cons_zero, List.set_cons_succ, i64_w, i32_w]
      rfl
    refine take_ (i := 12) (N := some 23) (v := ?_) (a' := ?_) #[true, true, true, true, true, true, true, true, true, true, false, true, true, false, false, false, false, false, false, false, false, false, false, false, false, false, false, false, false, false, false, false, false, false, false, false, false, false, false, false, false, false, false] rfl rfl (take_ofW HT_.out HW_.out (by kernel_rfl)) (fun _ _ _ h => h) (Or.inl ⟨by rfl, ?_⟩) hHeld ?_ ?_
    rotate_left
    · intro w' hS_
      obtain ⟨s0, s1, s2, s3, s4, s5, s6, s7⟩ := hS_
      go_simp
      with_reducible rfl
    rotate_left
    · simp only [Act.put, List.setIfInBounds_toArray, List.set_cons_zero, List.set_cons_succ, i64_w, i32_w]
      rfl
    refine one_ (i := 10) (N := some 21) #[true, true, true, true, true, true, true, true, true, true, true, true, true, false, false, false, false, false, false, false, false, false, false, false, false, false, false, false, false, false, false, false, false, false, false, false, false, false, false, false, false, false, false] rfl rfl (one_of HT_.out (by kernel_rfl)) (by decide) (fun K hK => ?_)
    refine goes_ Tryd.func42 (by kernel_rfl) rfl #[.agg #[.int .u32 a0_0, .int .i64 a0_1], .agg #[.int .u32 a1_0, .int .i64 a1_1]] (by rfl) rfl rfl (by (try simp only [List.map_toArray, List.map_cons, List.map_nil]); first | done | rfl) ?_
    refine (cidr_Net_Meets.calls a0_0 a0_1 a1_0 a1_1 q _ H4.out).mono ?_
    rintro e V10 ⟨rfl, hb⟩
    refine ⟨_, rfl, ?_⟩
    have HBn := Aside0.mk (below_step HB.out hb); clear HB; have HB := HBn; clear HBn
    refine hK.out _ _ ⟨cell_keep hb (hHeld.1), cell_keep hb (hHeld.2.1), cell_keep hb (hHeld.2.2.1), cell_keep hb (hHeld.2.2.2.1), cell_keep hb (hHeld.2.2.2.2.1), cell_keep hb (hHeld.2.2.2.2.2.1), cell_keep hb (hHeld.2.2.2.2.2.2.1), cell_keep hb (hHeld.2.2.2.2.2.2.2)⟩ (fun hHeld => ?_)
    clear hK K
    refine norm_ (a' := ?_) ?_ ?_
    rotate_left
    · show Act.put _ (some 21) _ = _
      simp only [Act.put, List.setIfInBounds_toArray, List.set_cons_zero, List.set_cons_succ, i64_w, i32_w]
      rfl
    refine one_ (i := 13) (N := some 24) #[true, true, true, true, true, true, true, true, true, true, true, true, true, true, false, false, false, false, false, false, false, false, false, false, false, false, false, false, false, false, false, false, false, false, false, false, false, false, false, false, false, false, false] rfl rfl (one_of HT_.out (by kernel_rfl)) (by decide) (fun K hK => ?_)
    refine goes_ Tryd.func43 (by kernel_rfl) rfl #[.agg #[.int .u32 a0_0, .int .i64 a0_1], .agg #[.int .u32 a1_0, .int .i64 a1_1]] (by rfl) rfl rfl (by (try simp only [List.map_toArray, List.map_cons, List.map_nil]); first | done | rfl) ?_
    refine (virgateref02_Meets.calls k a0_0 a0_1 a1_0 a1_1 q _ H6.out).mono ?_
    rintro e V13 ⟨rfl, hb⟩
    refine ⟨_, rfl, ?_⟩
    have HBn := Aside0.mk (below_step HB.out hb); clear HB; have HB := HBn; clear HBn
    refine hK.out _ _ ⟨cell_keep hb (hHeld.1), cell_keep hb (hHeld.2.1), cell_keep hb (hHeld.2.2.1), cell_keep hb (hHeld.2.2.2.1), cell_keep hb (hHeld.2.2.2.2.1), cell_keep hb (hHeld.2.2.2.2.2.1), cell_keep hb (hHeld.2.2.2.2.2.2.1), cell_keep hb (hHeld.2.2.2.2.2.2.2)⟩ (fun hHeld => ?_)
    clear hK K
    refine norm_ (a' := ?_) ?_ ?_
    rotate_left
    · show Act.put _ (some 24) _ = _
      simp only [Act.put, List.setIfInBounds_toArray, List.set_cons_zero, List.set_cons_succ, i64_w, i32_w]
      rfl
    refine pure_ (i := 14) (N := some 25) (v := ?_) (a' := ?_) #[true, true, true, true, true, true, true, true, true, true, true, true, true, true, true, false, false, false, false, false, false, false, false, false, false, false, false, false, false, false, false, false, false, false, false, false, false, false, false, false, false, false, false] rfl rfl (any_of HT_.out (by kernel_rfl)) (fun _ _ _ h => h) (Or.inl ⟨by rfl, ?_⟩) ?_ ?_
    rotate_left
    · intro w'
      go_simp
      with_reducible rfl
    rotate_left
    · simp only [Act.put, List.setIfInBounds_toArray, List.set_cons_zero, List.set_cons_succ, i64_w, i32_w]
      rfl
    refine pure_ (i := 15) (N := some 26) (v := ?_) (a' := ?_) #[true, true, true, true, true, true, true, true, true, true, true, true, true, true, true, true, false, false, false, false, false, false, false, false, false, false, false, false, false, false, false, false, false, false, false, false, false, false, false, false, false, false, false] rfl rfl (any_of HT_.out (by kernel_rfl)) (fun _ _ _ h => h) (Or.inl ⟨by rfl, ?_⟩) ?_ ?_
    rotate_left
    · intro w'
      go_simp
      with_reducible rfl
    rotate_left
    · simp only [Act.put, List.setIfInBounds_toArray, List.set_cons_zero, List.set_cons_succ, i64_w, i32_w]
      rfl
    refine pure_ (i := 16) (N := some 27) (v := ?_) (a' := ?_) #[true, true, true, true, true, true, true, true, true, true, true, true, true, true, true, true, true, false, false, false, false, false, false, false, false, false, false, false, false, false, false, false, false, false, false, false, false, false, false, false, false, false, false] rfl rfl (any_of HT_.out (by kernel_rfl)) (fun _ _ _ h => h) (Or.inl ⟨by rfl, ?_⟩) ?_ ?_
    rotate_left
    · intro w'
      go_simp
      with_reducible rfl
    rotate_left
    · simp only [Act.put, List.setIfInBounds_toArray, List.set_cons_zero, List.set_cons_succ, i64_w, i32_w]
      rfl
    refine take_ (i := 17) (N := some 28) (v := ?_) (a' := ?_) #[true, true, true, true, true, true, true, true, true, true, true, true, true, true, true, true, true, true, false, false, false, false, false, false, false, false, false, false, false, false, false, false, false, false, false, false, false, false, false, false, false, false, false] rfl rfl (take_ofW HT_.out HW_.out (by kernel_rfl)) (fun _ _ _ h => h) (Or.inl ⟨by rfl, ?_⟩) hHeld ?_ ?_
    rotate_left
    · intro w' hS_
      obtain ⟨s0, s1, s2, s3, s4, s5, s6, s7⟩ := hS_
      go_simp
      with_reducible rfl
    rotate_left
    · simp only [Act.put, List.setIfInBounds_toArray, List.set_cons_zero, List.set_cons_succ, i64_w, i32_w]
      rfl
    refine take_ (i := 18) (N := some 29) (v := ?_) (a' := ?_) #[true, true, true, true, true, true, true, true, true, true, true, true, true, true, true, true, true, true, true, false, false, false, false, false, false, false, false, false, false, false, false, false, false, false, false, false, false, false, false, false, false, false, false] rfl rfl (take_ofW HT_.out HW_.out (by kernel_rfl)) (fun _ _ _ h => h) (Or.inl ⟨by rfl, ?_⟩) hHeld ?_ ?_
    rotate_left
    · intro w' hS_
      obtain ⟨s0, s1, s2, s3, s4, s5, s6, s7⟩ := hS_
      go_simp
      with_reducible rfl
    rotate_left
    · simp only [Act.put, List.setIfInBounds_toArray, List.set_cons_zero, List.set_cons_succ, i64_w, i32_w]
      rfl
    refine take_ (i := 20) (N := some 31) (v := ?_) (a' := ?_) #[true, true, true, true, true, true, true, true, true, true, true, true, true, true, true, true, true, true, true, false, true, false, false, false, false, false, false, false, false, false, false, false, false, false, false, false, false, false, false, false, false, false, false] rfl rfl (take_ofW HT_.out HW_.out (by kernel_rfl)) (fun _ _ _ h => h) (Or.inl ⟨by rfl, ?_⟩) hHeld ?_ ?_
    rotate_left
    · intro w' hS_
      obtain ⟨s0, s1, s2, s3, s4, s5, s6, s7⟩ := hS_
      go_simp
      with_reducible rfl
    rotate_left
    · simp only [Act.put, List.setIfInBounds_toArray, List.set_cons_zero, List.set_cons_succ, i64_w, i32_w]
      rfl
    refine take_ (i := 21) (N := some 32) (v := ?_) (a' := ?_) #[true, true, true, true, true, true, true, true, true, true, true, true, true, true, true, true, true, true, true, false, true, true, false, false, false, false, false, false, false, false, false, false, false, false, false, false, false, false, false, false, false, false, false] rfl rfl (take_ofW HT_.out HW_.out (by kernel_rfl)) (fun _ _ _ h => h) (Or.inl ⟨by rfl, ?_⟩) hHeld ?_ ?_
    rotate_left
    · intro w' hS_
      obtain ⟨s0, s1, s2, s3, s4, s5, s6, s7⟩ := hS_
      go_simp
      with_reducible rfl
    rotate_left
    · simp only [Act.put, List.setIfInBounds_toArray, List.set_cons_zero, List.set_cons_succ, i64_w, i32_w]
      rfl
    refine one_ (i := 19) (N := some 30) #[true, true, true, true, true, true, true, true, true, true, true, true, true, true, true, true, true, true, true, true, true, true, false, false, false, false, false, false, false, false, false, false, false, false, false, false, false, false, false, false, false, false, false] rfl rfl (one_of HT_.out (by kernel_rfl)) (by decide) (fun K hK => ?_)
    refine goes_ Tryd.func42 (by kernel_rfl) rfl #[.agg #[.int .u32 a0_0, .int .i64 a0_1], .agg #[.int .u32 a1_0, .int .i64 a1_1]] (by rfl) rfl rfl (by (try simp only [List.map_toArray, List.map_cons, List.map_nil]); first | done | rfl) ?_
    refine (cidr_Net_Meets.calls a0_0 a0_1 a1_0 a1_1 q _ H4.out).mono ?_
    rintro e V19 ⟨rfl, hb⟩
    refine ⟨_, rfl, ?_⟩
    have HBn := Aside0.mk (below_step HB.out hb); clear HB; have HB := HBn; clear HBn
    refine hK.out _ _ ⟨cell_keep hb (hHeld.1), cell_keep hb (hHeld.2.1), cell_keep hb (hHeld.2.2.1), cell_keep hb (hHeld.2.2.2.1), cell_keep hb (hHeld.2.2.2.2.1), cell_keep hb (hHeld.2.2.2.2.2.1), cell_keep hb (hHeld.2.2.2.2.2.2.1), cell_keep hb (hHeld.2.2.2.2.2.2.2)⟩ (fun hHeld => ?_)
    clear hK K
    refine norm_ (a' := ?_) ?_ ?_
    rotate_left
    · show Act.put _ (some 30) _ = _
      simp only [Act.put, List.setIfInBounds_toArray, List.set_cons_zero, List.set_cons_succ, i64_w, i32_w]
      rfl
    refine one_ (i := 22) (N := some 33) #[true, true, true, true, true, true, true, true, true, true, true, true, true, true, true, true, true, true, true, true, true, true, true, false, false, false, false, false, false, false, false, false, false, false, false, false, false, false, false, false, false, false, false] rfl rfl (one_of HT_.out (by kernel_rfl)) (by decide) (fun K hK => ?_)
    refine goes_ Tryd.func40 (by kernel_rfl) rfl #[.agg #[.int .u32 a0_0, .int .i64 a0_1], .agg #[.int .u32 a1_0, .int .i64 a1_1]] (by rfl) rfl rfl (by (try simp only [List.map_toArray, List.map_cons, List.map_nil]); first | done | rfl) ?_
    refine (cidr_Net_Covers.calls a0_0 a0_1 a1_0 a1_1 false _ H1.out).mono ?_
    rintro e V22 ⟨rfl, hb⟩
    refine ⟨_, rfl, ?_⟩
    have HBn := Aside0.mk (below_step HB.out hb); clear HB; have HB := HBn; clear HBn
    refine hK.out _ _ ⟨cell_keep hb (hHeld.1), cell_keep hb (hHeld.2.1), cell_keep hb (hHeld.2.2.1), cell_keep hb (hHeld.2.2.2.1), cell_keep hb (hHeld.2.2.2.2.1), cell_keep hb (hHeld.2.2.2.2.2.1), cell_keep hb (hHeld.2.2.2.2.2.2.1), cell_keep hb (hHeld.2.2.2.2.2.2.2)⟩ (fun hHeld => ?_)
    clear hK K
    refine norm_ (a' := ?_) ?_ ?_
    rotate_left
    · show Act.put _ (some 33) _ = _
      simp only [Act.put, List.setIfInBounds_toArray, List.set_cons_zero, List.set_cons_succ, i64_w, i32_w]
      rfl
    refine pure_ (i := 23) (N := some 34) (v := ?_) (a' := ?_) #[true, true, true, true, true, true, true, true, true, true, true, true, true, true, true, true, true, true, true, true, true, true, true, true, false, false, false, false, false, false, false, false, false, false, false, false, false, false, false, false, false, false, false] rfl rfl (any_of HT_.out (by kernel_rfl)) (fun _ _ _ h => h) (Or.inl ⟨by rfl, ?_⟩) ?_ ?_
    rotate_left
    · intro w'
      go_simp
      with_reducible rfl
    rotate_left
    · simp only [Act.put, List.setIfInBounds_toArray, List.set_cons_zero, List.set_cons_succ, i64_w, i32_w]
      rfl
    refine take_ (i := 24) (N := some 35) (v := ?_) (a' := ?_) #[true, true, true, true, true, true, true, true, true, true, true, true, true, true, true, true, true, true, true, true, true, true, true, true, true, false, false, false, false, false, false, false, false, false, false, false, false, false, false, false, false, false, false] rfl rfl (take_ofW HT_.out HW_.out (by kernel_rfl)) (fun _ _ _ h => h) (Or.inl ⟨by rfl, ?_⟩) hHeld ?_ ?_
    rotate_left
    · intro w' hS_
      obtain ⟨s0, s1, s2, s3, s4, s5, s6, s7⟩ := hS_
      go_simp
      with_reducible rfl
    rotate_left
    · simp only [Act.put, List.setIfInBounds_toArray, List.set_cons_zero, List.set_cons_succ, i64_w, i32_w]
      rfl
    refine take_ (i := 25) (N := some 36) (v := ?_) (a' := ?_) #[true, true, true, true, true, true, true, true, true, true, true, true, true, true, true, true, true, true, true, true, true, true, true, true, true, true, false, false, false, false, false, false, false, false, false, false, false, false, false, false, false, false, false] rfl rfl (take_ofW HT_.out HW_.out (by kernel_rfl)) (fun _ _ _ h => h) (Or.inl ⟨by rfl, ?_⟩) hHeld ?_ ?_
    rotate_left
    · intro w' hS_
      obtain ⟨s0, s1, s2, s3, s4, s5, s6, s7⟩ := hS_
      go_simp
      with_reducible rfl
    rotate_left
    · simp only [Act.put, List.setIfInBounds_toArray, List.set_cons_zero, List.set_cons_succ, i64_w, i32_w]
      rfl
    refine one_ (i := 26) (N := some 37) #[true, true, true, true, true, true, true, true, true, true, true, true, true, true, true, true, true, true, true, true, true, true, true, true, true, true, true, false, false, false, false, false, false, false, false, false, false, false, false, false, false, false, false] rfl rfl (one_of HT_.out (by kernel_rfl)) (by decide) (fun K hK => ?_)
    refine goes_ Tryd.func40 (by kernel_rfl) rfl #[.agg #[.int .u32 a1_0, .int .i64 a1_1], .agg #[.int .u32 a0_0, .int .i64 a0_1]] (by rfl) rfl rfl (by (try simp only [List.map_toArray, List.map_cons, List.map_nil]); first | done | rfl) ?_
    refine (cidr_Net_Covers.calls a1_0 a1_1 a0_0 a0_1 q _ H2.out).mono ?_
    rintro e V26 ⟨rfl, hb⟩
    refine ⟨_, rfl, ?_⟩
    have HBn := Aside0.mk (below_step HB.out hb); clear HB; have HB := HBn; clear HBn
    refine hK.out _ _ ⟨cell_keep hb (hHeld.1), cell_keep hb (hHeld.2.1), cell_keep hb (hHeld.2.2.1), cell_keep hb (hHeld.2.2.2.1), cell_keep hb (hHeld.2.2.2.2.1), cell_keep hb (hHeld.2.2.2.2.2.1), cell_keep hb (hHeld.2.2.2.2.2.2.1), cell_keep hb (hHeld.2.2.2.2.2.2.2)⟩ (fun hHeld => ?_)
    clear hK K
    refine norm_ (a' := ?_) ?_ ?_
    rotate_left
    · show Act.put _ (some 37) _ = _
      simp only [Act.put, List.setIfInBounds_toArray, List.set_cons_zero, List.set_cons_succ, i64_w, i32_w]
      rfl
    refine pure_ (i := 27) (N := some 38) (v := ?_) (a' := ?_) #[true, true, true, true, true, true, true, true, true, true, true, true, true, true, true, true, true, true, true, true, true, true, true, true, true, true, true, true, false, false, false, false, false, false, false, false, false, false, false, false, false, false, false] rfl rfl (any_of HT_.out (by kernel_rfl)) (fun _ _ _ h => h) (Or.inl ⟨by rfl, ?_⟩) ?_ ?_
    rotate_left
    · intro w'
      go_simp
      with_reducible rfl
    rotate_left
    · simp only [Act.put, List.setIfInBounds_toArray, List.set_cons_zero, List.set_cons_succ, i64_w, i32_w]
      rfl
    refine pure_ (i := 28) (N := some 39) (v := ?_) (a' := ?_) #[true, true, true, true, true, true, true, true, true, true, true, true, true, true, true, true, true, true, true, true, true, true, true, true, true, true, true, true, true, false, false, false, false, false, false, false, false, false, false, false, false, false, false] rfl rfl (any_of HT_.out (by kernel_rfl)) (fun _ _ _ h => h) (Or.inl ⟨by rfl, ?_⟩) ?_ ?_
    rotate_left
    · intro w'
      go_simp
      with_reducible rfl
    rotate_left
    · simp only [Act.put, List.setIfInBounds_toArray, List.set_cons_zero, List.set_cons_succ, i64_w, i32_w]
      rfl
    refine pure_ (i := 29) (N := some 40) (v := ?_) (a' := ?_) #[true, true, true, true, true, true, true, true, true, true, true, true, true, true, true, true, true, true, true, true, true, true, true, true, true, true, true, true, true, true, false, false, false, false, false, false, false, false, false, false, false, false, false] rfl rfl (any_of HT_.out (by kernel_rfl)) (fun _ _ _ h => h) (Or.inl ⟨by rfl, ?_⟩) ?_ ?_
    rotate_left
    · intro w'
      go_simp
      with_reducible rfl
    rotate_left
    · simp only [Act.put, List.setIfInBounds_toArray, List.set_cons_zero, List.set_cons_succ, i64_w, i32_w]
      rfl
    refine pure_ (i := 30) (N := some 41) (v := ?_) (a' := ?_) #[true, true, true, true, true, true, true, true, true, true, true, true, true, true, true, true, true, true, true, true, true, true, true, true, true, true, true, true, true, true, true, false, false, false, false, false, false, false, false, false, false, false, false] rfl rfl (any_of HT_.out (by kernel_rfl)) (fun _ _ _ h => h) (Or.inl ⟨by rfl, ?_⟩) ?_ ?_
    rotate_left
    · intro w'
      go_simp
      with_reducible rfl
    rotate_left
    · simp only [Act.put, List.setIfInBounds_toArray, List.set_cons_zero, List.set_cons_succ, i64_w, i32_w]
      rfl
    refine take_ (i := 31) (N := some 42) (v := ?_) (a' := ?_) #[true, true, true, true, true, true, true, true, true, true, true, true, true, true, true, true, true, true, true, true, true, true, true, true, true, true, true, true, true, true, true, true, false, false, false, false, false, false, false, false, false, false, false] rfl rfl (take_ofW HT_.out HW_.out (by kernel_rfl)) (fun _ _ _ h => h) (Or.inl ⟨by rfl, ?_⟩) hHeld ?_ ?_
    rotate_left
    · intro w' hS_
      obtain ⟨s0, s1, s2, s3, s4, s5, s6, s7⟩ := hS_
      go_simp
      with_reducible rfl
    rotate_left
    · simp only [Act.put, List.setIfInBounds_toArray, List.set_cons_zero, List.set_cons_succ, i64_w, i32_w]
      rfl
    refine take_ (i := 32) (N := some 43) (v := ?_) (a' := ?_) #[true, true, true, true, true, true, true, true, true, true, true, true, true, true, true, true, true, true, true, true, true, true, true, true, true, true, true, true, true, true, true, true, true, false, false, false, false, false, false, false, false, false, false] rfl rfl (take_ofW HT_.out HW_.out (by kernel_rfl)) (fun _ _ _ h => h) (Or.inl ⟨by rfl, ?_⟩) hHeld ?_ ?_
    rotate_left
    · intro w' hS_
      obtain ⟨s0, s1, s2, s3, s4, s5, s6, s7⟩ := hS_
      go_simp
      with_reducible rfl
    rotate_left
    · simp only [Act.put, List.setIfInBounds_toArray, List.set_cons_zero, List.set_cons_succ, i64_w, i32_w]
      rfl
    refine take_ (i := 34) (N := some 45) (v := ?_) (a' := ?_) #[true, true, true, true, true, true, true, true, true, true, true, true, true, true, true, true, true, true, true, true, true, true, true, true, true, true, true, true, true, true, true, true, true, false, true, false, false, false, false, false, false, false, false] rfl rfl (take_ofW HT_.out HW_.out (by kernel_rfl)) (fun _ _ _ h => h) (Or.inl ⟨by rfl, ?_⟩) hHeld ?_ ?_
    rotate_left
    · intro w' hS_
      obtain ⟨s0, s1, s2, s3, s4, s5, s6, s7⟩ := hS_
      go_simp
      with_reducible rfl
    rotate_left
    · simp only [Act.put, List.setIfInBounds_toArray, List.set_cons_zero, List.set_cons_succ, i64_w, i32_w]
      rfl
    refine take_ (i := 35) (N := some 46) (v := ?_) (a' := ?_) #[true, true, true, true, true, true, true, true, true, true, true, true, true, true, true, true, true, true, true, true, true, true, true, true, true, true, true, true, true, true, true, true, true, false, true, true, false, false, false, false, false, false, false] rfl rfl (take_ofW HT_.out HW_.out (by kernel_rfl)) (fun _ _ _ h => h) (Or.inl ⟨by rfl, ?_⟩) hHeld ?_ ?_
    rotate_left
    · intro w' hS_
      obtain ⟨s0, s1, s2, s3, s4, s5, s6, s7⟩ := hS_
      go_simp
      with_reducible rfl
    rotate_left
    · simp only [Act.put, List.setIfInBounds_toArray, List.set_cons_zero, List.set_cons_succ, i64_w, i32_w]
      rfl
    refine one_ (i := 33) (N := some 44) #[true, true, true, true, true, true, true, true, true, true, true, true, true, true, true, true, true, true, true, true, true, true, true, true, true, true, true, true, true, true, true, true, true, true, true, true, false, false, false, false, false, false, false] rfl rfl (one_of HT_.out (by kernel_rfl)) (by decide) (fun K hK => ?_)
    refine goes_ Tryd.func42 (by kernel_rfl) rfl #[.agg #[.int .u32 a0_0, .int .i64 a0_1], .agg #[.int .u32 a1_0, .int .i64 a1_1]] (by rfl) rfl rfl (by (try simp only [List.map_toArray, List.map_cons, List.map_nil]); first | done | rfl) ?_
    refine (cidr_Net_Meets.calls a0_0 a0_1 a1_0 a1_1 q _ H4.out).mono ?_
    rintro e V33 ⟨rfl, hb⟩
    refine ⟨_, rfl, ?_⟩
    have HBn := Aside0.mk (below_step HB.out hb); clear HB; have HB := HBn; clear HBn
    refine hK.out _ _ ⟨cell_keep hb (hHeld.1), cell_keep hb (hHeld.2.1), cell_keep hb (hHeld.2.2.1), cell_keep hb (hHeld.2.2.2.1), cell_keep hb (hHeld.2.2.2.2.1), cell_keep hb (hHeld.2.2.2.2.2.1), cell_keep hb (hHeld.2.2.2.2.2.2.1), cell_keep hb (hHeld.2.2.2.2.2.2.2)⟩ (fun hHeld => ?_)
    clear hK K
    refine norm_ (a' := ?_) ?_ ?_
    rotate_left
    · show Act.put _ (some 44) _ = _
      simp only [Act.put, List.setIfInBounds_toArray, List.set_cons_zero, List.set_cons_succ, i64_w, i32_w]
      rfl
    refine one_ (i := 36) (N := some 47) #[true, true, true, true, true, true, true, true, true, true, true, true, true, true, true, true, true, true, true, true, true, true, true, true, true, true, true, true, true, true, true, true, true, true, true, true, true, false, false, false, false, false, false] rfl rfl (one_of HT_.out (by kernel_rfl)) (by decide) (fun K hK => ?_)
    refine goes_ Tryd.func42 (by kernel_rfl) rfl #[.agg #[.int .u32 a1_0, .int .i64 a1_1], .agg #[.int .u32 a0_0, .int .i64 a0_1]] (by rfl) rfl rfl (by (try simp only [List.map_toArray, List.map_cons, List.map_nil]); first | done | rfl) ?_
    refine (cidr_Net_Meets.calls a1_0 a1_1 a0_0 a0_1 q _ H5.out).mono ?_
    rintro e V36 ⟨rfl, hb⟩
    refine ⟨_, rfl, ?_⟩
    have HBn := Aside0.mk (below_step HB.out hb); clear HB; have HB := HBn; clear HBn
    refine hK.out _ _ ⟨cell_keep hb (hHeld.1), cell_keep hb (hHeld.2.1), cell_keep hb (hHeld.2.2.1), cell_keep hb (hHeld.2.2.2.1), cell_keep hb (hHeld.2.2.2.2.1), cell_keep hb (hHeld.2.2.2.2.2.1), cell_keep hb (hHeld.2.2.2.2.2.2.1), cell_keep hb (hHeld.2.2.2.2.2.2.2)⟩ (fun hHeld => ?_)
    clear hK K
    refine norm_ (a' := ?_) ?_ ?_
    rotate_left
    · show Act.put _ (some 47) _ = _
      simp only [Act.put, List.setIfInBounds_toArray, List.set_cons_zero, List.set_cons_succ, i64_w, i32_w]
      rfl
    refine pure_ (i := 37) (N := some 48) (v := ?_) (a' := ?_) #[true, true, true, true, true, true, true, true, true, true, true, true, true, true, true, true, true, true, true, true, true, true, true, true, true, true, true, true, true, true, true, true, true, true, true, true, true, true, false, false, false, false, false] rfl rfl (any_of HT_.out (by kernel_rfl)) (fun _ _ _ h => h) (Or.inl ⟨by rfl, ?_⟩) ?_ ?_
    rotate_left
    · intro w'
      go_simp
      with_reducible rfl
    rotate_left
    · simp only [Act.put, List.setIfInBounds_toArray, List.set_cons_zero, List.set_cons_succ, i64_w, i32_w]
      rfl
    refine pure_ (i := 38) (N := some 49) (v := ?_) (a' := ?_) #[true, true, true, true, true, true, true, true, true, true, true, true, true, true, true, true, true, true, true, true, true, true, true, true, true, true, true, true, true, true, true, true, true, true, true, true, true, true, true, false, false, false, false] rfl rfl (any_of HT_.out (by kernel_rfl)) (fun _ _ _ h => h) (Or.inl ⟨by rfl, ?_⟩) ?_ ?_
    rotate_left
    · intro w'
      go_simp
      with_reducible rfl
    rotate_left
    · simp only [Act.put, List.setIfInBounds_toArray, List.set_cons_zero, List.set_cons_succ, i64_w, i32_w]
      rfl
    refine pure_ (i := 39) (N := some 50) (v := ?_) (a' := ?_) #[true, true, true, true, true, true, true, true, true, true, true, true, true, true, true, true, true, true, true, true, true, true, true, true, true, true, true, true, true, true, true, true, true, true, true, true, true, true, true, true, false, false, false] rfl rfl (any_of HT_.out (by kernel_rfl)) (fun _ _ _ h => h) (Or.inl ⟨by rfl, ?_⟩) ?_ ?_
    rotate_left
    · intro w'
      go_simp
      with_reducible rfl
    rotate_left
    · simp only [Act.put, List.setIfInBounds_toArray, List.set_cons_zero, List.set_cons_succ, i64_w, i32_w]
      rfl
    refine one_ (i := 40) (N := some 51) #[true, true, true, true, true, true, true, true, true, true, true, true, true, true, true, true, true, true, true, true, true, true, true, true, true, true, true, true, true, true, true, true, true, true, true, true, true, true, true, true, true, false, false] rfl rfl (one_of HT_.out (by kernel_rfl)) (by decide) (fun K hK => ?_)
    refine goes_ Tryd.func38 (by kernel_rfl) rfl #[] (by rfl) rfl rfl (by (try simp only [List.map_toArray, List.map_cons, List.map_nil]); first | done | rfl) ?_
    refine (virgatelaw02_awake.calls k true _ (awake02_f k hk)).mono ?_
    rintro e V40 ⟨rfl, hb⟩
    refine ⟨_, rfl, ?_⟩
    have HBn := Aside0.mk (below_step HB.out hb); clear HB; have HB := HBn; clear HBn
    refine hK.out _ _ ⟨cell_keep hb (hHeld.1), cell_keep hb (hHeld.2.1), cell_keep hb (hHeld.2.2.1), cell_keep hb (hHeld.2.2.2.1), cell_keep hb (hHeld.2.2.2.2.1), cell_keep hb (hHeld.2.2.2.2.2.1), cell_keep hb (hHeld.2.2.2.2.2.2.1), cell_keep hb (hHeld.2.2.2.2.2.2.2)⟩ (fun hHeld => ?_)
    clear hK K
    refine norm_ (a' := ?_) ?_ ?_
    rotate_left
    · show Act.put _ (some 51) _ = _
      simp only [Act.put, List.setIfInBounds_toArray, List.set_cons_zero, List.set_cons_succ, i64_w, i32_w]
      rfl
    refine pure_ (i := 41) (N := some 52) (v := ?_) (a' := ?_) #[true, true, true, true, true, true, true, true, true, true, true, true, true, true, true, true, true, true, true, true, true, true, true, true, true, true, true, true, true, true, true, true, true, true, true, true, true, true, true, true, true, true, false] rfl rfl (any_of HT_.out (by kernel_rfl)) (fun _ _ _ h => h) (Or.inl ⟨by rfl, ?_⟩) ?_ ?_
    rotate_left
    · intro w'
      go_simp
      with_reducible rfl
    rotate_left
    · simp only [Act.put, List.setIfInBounds_toArray, List.set_cons_zero, List.set_cons_succ, i64_w, i32_w]
      rfl
    refine pure_ (i := 42) (N := some 4) (v := ?_) (a' := ?_) #[true, true, true, true, true, true, true, true, true, true, true, true, true, true, true, true, true, true, true, true, true, true, true, true, true, true, true, true, true, true, true, true, true, true, true, true, true, true, true, true, true, true, true] rfl rfl (any_of HT_.out (by kernel_rfl)) (fun _ _ _ h => h) (Or.inl ⟨by rfl, ?_⟩) ?_ ?_
    rotate_left
    · intro w'
      go_simp
      with_reducible rfl
    rotate_left
    · simp only [Act.put, List.setIfInBounds_toArray, List.set_cons_zero, List.set_cons_succ, i64_w, i32_w]
      rfl
    refine done_ (done_of HT_.out (by kernel_rfl)) ?_
    try go_wp2
    go_ret
    exact ⟨rfl, HB.out⟩
theorem cidrCovers_walk (v : Value) (x : Int × Int) (v2 : Value) (x2 : Int × Int) (w : World) (h : NetIs v x) (h2 : NetIs v2 x2) : Calls Tryd.prog 10 #[v, v2] w fun e w' => e = .returned (.bool true) ∧ Below w.heap.size w w' := by
  obtain ⟨rfl, w0, w1⟩ := h
  obtain ⟨rfl, w2, w3⟩ := h2
  obtain ⟨a, b⟩ := x
  obtain ⟨c, d⟩ := x2
  obtain ⟨n, rfl, hn⟩ := wf_u32 w0
  obtain ⟨m, rfl, hm⟩ := wf_u32 w2
  have e1 := rcovers_f n hn b m hm d 60 (by omega)
  have e2 := rmeets_f n hn b m hm d 60 (by omega)
  have e3 := meets_f m hm d n hn b
  rw [← covers_eq] at e1
  rw [← meets_eq] at e2
  rw [Bool.or_comm] at e3
  exact covers_any _ _ _ _ 60 (by omega) _ _ (covers_f n hn b m hm d) (covers_f m hm d n hn b) e1 (meets_f n hn b m hm d) e3 e2 w
end Go.Proofs.YtcdopgkkieenjaaDoor.V
