/- The law BlockRight for every input: texts of ours, put together (part 8 of 12). No further condition. -/
import Derived.Test.YtemhalnhbgkbcaaCBlockRightx2
import Derived.Test.YtemhalnhbgkbcaaCBlockRightx6
import Derived.Test.YtemhalnhbgkbcaaCBlockRightx5
import Derived.Outline
import Derived.Lib.SliceRun
import Derived.Test.YtemhalnhbgkbcaaCBlockRightx4
import Derived.Test.YtemhalnhbgkbcaaCBlockRightw0
import Derived.Lib.ConvBytes
import Derived.Lib.AtoiErrMem
import Derived.Laws.CopyRow
import Derived.Laws.IdiomCopy
-- VFVirgateref15Copy
section
-- PRINTED by print.py (a twelfth state) out of the translation. Not trusted: Lean checks it.
namespace Go.Proofs.Ytemhalnhbgkbcaa.V
open Go.RowKit Go.Proofs.YtemhalnhbgkbcaaW.PrintWords Go.Proofs.YtemhalnhbgkbcaaW.PrintLast Go.Proofs.YtemhalnhbgkbcaaW.PrintMore
attribute [local go_sem] max2_int min2_int max_two min_two max_three min_three max_four min_four   -- for this text's walks alone
set_option linter.unusedVariables false
set_option linter.unusedSimpArgs false

/-! ### virgateref15_Copy: function 85 -/
def virgateref15_Copy.f (a0_0 : Int) (a0_1 : ByteArray) (l0_2 : List Int) (l0_3 : List Int) (l0_4 : List (S76)) : Option (Int × ByteArray × List Int × List Int × (List (S76))) := (some (([] : List Int) : List Int)).bind fun y85103 => (if y85103.length + l0_2.length < 17592186044416 then ((some (([] : List Int) : List Int)).bind fun y85109 => (if y85109.length + l0_3.length < 17592186044416 then ((some (([] : List (S76)) : List (S76))).bind fun y85115 => (if y85115.length + l0_4.length < 4398046511104 then (some (a0_0, a0_1, (y85103 ++ l0_2), (y85109 ++ l0_3), (y85115 ++ l0_4))) else (none))) else (none))) else (none))
set_option maxHeartbeats 8000000 in
set_option maxRecDepth 100000 in
theorem virgateref15_Copy.calls (a0_0 : Int) (a0_1 : ByteArray) (A0_2 : Option Addr) (c0_2 : Nat) (l0_2 : List Int) (A0_3 : Option Addr) (c0_3 : Nat) (l0_3 : List Int) (A0_4 : Option Addr) (c0_4 : Nat) (l0_4 : List (S76)) (r1 : Int) (r2 : ByteArray) (r3 : List Int) (r4 : List Int) (r5 : List (S76)) (w : World) (hr0_2 : Kd.C (Kd.int .i64) w A0_2 l0_2.length l0_2) (hc0_2 : l0_2.length ≤ c0_2) (hr0_3 : Kd.C (Kd.int .i64) w A0_3 l0_3.length l0_3) (hc0_3 : l0_3.length ≤ c0_3) (hr0_4 : Kd.C k76 w A0_4 l0_4.length l0_4) (hc0_4 : l0_4.length ≤ c0_4) (h : virgateref15_Copy.f a0_0 a0_1 l0_2 l0_3 l0_4 = some (r1, r2, r3, r4, r5)) :
    Calls Try.prog 85 #[.agg #[.int .u32 a0_0, .string a0_1, .slice A0_2 l0_2.length c0_2, .slice A0_3 l0_3.length c0_3, .slice A0_4 l0_4.length c0_4]] w fun e w' => ∃ v2_ v3_ v4_ : Value, e = .returned (.agg #[.int .u32 r1, .string r2, v2_, v3_, v4_]) ∧ Kd.R (Kd.int .i64) 3 w' w.heap.size (fun k_ => some k_ ≠ (v3_ : Value).ownBlock) v2_ r3 ∧ Kd.R (Kd.int .i64) 3 w' w.heap.size (fun k_ => some k_ ≠ (v2_ : Value).ownBlock) v3_ r4 ∧ Kd.R k76 76 w' w.heap.size (fun _ => True) v4_ r5 ∧ Below w.heap.size w w' := by
  have hu62 := Try.underlying62
  have HR0_2 := Aside0.mk hr0_2
  have HC0_2 := Aside0.mk hc0_2
  clear hr0_2 hc0_2
  have HR0_3 := Aside0.mk hr0_3
  have HC0_3 := Aside0.mk hc0_3
  clear hr0_3 hc0_3
  have HR0_4 := Aside0.mk hr0_4
  have HC0_4 := Aside0.mk hc0_4
  clear hr0_4 hc0_4
  have HB := Aside0.mk (Below.refl w.heap.size w)
  have H : ((some (([] : List Int) : List Int)).bind fun y85103 => (if y85103.length + l0_2.length < 17592186044416 then ((some (([] : List Int) : List Int)).bind fun y85109 => (if y85109.length + l0_3.length < 17592186044416 then ((some (([] : List (S76)) : List (S76))).bind fun y85115 => (if y85115.length + l0_4.length < 4398046511104 then (some (a0_0, a0_1, (y85103 ++ l0_2), (y85109 ++ l0_3), (y85115 ++ l0_4))) else (none))) else (none))) else (none))) = some (r1, r2, r3, r4, r5) := h
  clear h
  obtain ⟨y85103, hy85103⟩ : ∃ y_ : List Int, y_ = (([] : List Int)) := ⟨_, rfl⟩
  replace H : (if y85103.length + l0_2.length < 17592186044416 then ((some (([] : List Int) : List Int)).bind fun y85109 => (if y85109.length + l0_3.length < 17592186044416 then ((some (([] : List (S76)) : List (S76))).bind fun y85115 => (if y85115.length + l0_4.length < 4398046511104 then (some (a0_0, a0_1, (y85103 ++ l0_2), (y85109 ++ l0_3), (y85115 ++ l0_4))) else (none))) else (none))) else (none)) = some (r1, r2, r3, r4, r5) := by first | (rw [hy85103]; with_reducible exact H) | (have H2_ := (Option.bind_some _ _).symm.trans H; rw [hy85103]; with_reducible exact H2_) | (have H2_ := (Option.bind_some _ _).symm.trans H; with_reducible exact H2_) | with_reducible exact H | (rw [hy85103]; exact H) | exact H
  have Ny85103 := Aside0.mk hy85103
  clear hy85103
  by_cases c2 : y85103.length + l0_2.length < 17592186044416
  · rw [if_pos c2] at H
    have LMc2 := Aside0.mk c2
    clear c2
    obtain ⟨y85106, hy85106⟩ : ∃ y_ : List Int, y_ = (y85103 ++ l0_2) := ⟨_, rfl⟩
    replace H : ((some (([] : List Int) : List Int)).bind fun y85109 => (if y85109.length + l0_3.length < 17592186044416 then ((some (([] : List (S76)) : List (S76))).bind fun y85115 => (if y85115.length + l0_4.length < 4398046511104 then (some (a0_0, a0_1, y85106, (y85109 ++ l0_3), (y85115 ++ l0_4))) else (none))) else (none))) = some (r1, r2, r3, r4, r5) := by first | (rw [hy85106]; with_reducible exact H) | (have H2_ := (Option.bind_some _ _).symm.trans H; rw [hy85106]; with_reducible exact H2_) | (have H2_ := (Option.bind_some _ _).symm.trans H; with_reducible exact H2_) | with_reducible exact H | (rw [hy85106]; exact H) | exact H
    have Ny85106 := Aside0.mk hy85106
    clear hy85106
    obtain ⟨y85109, hy85109⟩ : ∃ y_ : List Int, y_ = (([] : List Int)) := ⟨_, rfl⟩
    replace H : (if y85109.length + l0_3.length < 17592186044416 then ((some (([] : List (S76)) : List (S76))).bind fun y85115 => (if y85115.length + l0_4.length < 4398046511104 then (some (a0_0, a0_1, y85106, (y85109 ++ l0_3), (y85115 ++ l0_4))) else (none))) else (none)) = some (r1, r2, r3, r4, r5) := by first | (rw [hy85109]; with_reducible exact H) | (have H2_ := (Option.bind_some _ _).symm.trans H; rw [hy85109]; with_reducible exact H2_) | (have H2_ := (Option.bind_some _ _).symm.trans H; with_reducible exact H2_) | with_reducible exact H | (rw [hy85109]; exact H) | exact H
    have Ny85109 := Aside0.mk hy85109
    clear hy85109
    by_cases c3 : y85109.length + l0_3.length < 17592186044416
    · rw [if_pos c3] at H
      have LMc3 := Aside0.mk c3
      clear c3
      obtain ⟨y85112, hy85112⟩ : ∃ y_ : List Int, y_ = (y85109 ++ l0_3) := ⟨_, rfl⟩
      replace H : ((some (([] : List (S76)) : List (S76))).bind fun y85115 => (if y85115.length + l0_4.length < 4398046511104 then (some (a0_0, a0_1, y85106, y85112, (y85115 ++ l0_4))) else (none))) = some (r1, r2, r3, r4, r5) := by first | (rw [hy85112]; with_reducible exact H) | (have H2_ := (Option.bind_some _ _).symm.trans H; rw [hy85112]; with_reducible exact H2_) | (have H2_ := (Option.bind_some _ _).symm.trans H; with_reducible exact H2_) | with_reducible exact H | (rw [hy85112]; exact H) | exact H
      have Ny85112 := Aside0.mk hy85112
      clear hy85112
      obtain ⟨y85115, hy85115⟩ : ∃ y_ : List (S76), y_ = (([] : List (S76))) := ⟨_, rfl⟩
      replace H : (if y85115.length + l0_4.length < 4398046511104 then (some (a0_0, a0_1, y85106, y85112, (y85115 ++ l0_4))) else (none)) = some (r1, r2, r3, r4, r5) := by first | (rw [hy85115]; with_reducible exact H) | (have H2_ := (Option.bind_some _ _).symm.trans H; rw [hy85115]; with_reducible exact H2_) | (have H2_ := (Option.bind_some _ _).symm.trans H; with_reducible exact H2_) | with_reducible exact H | (rw [hy85115]; exact H) | exact H
      have Ny85115 := Aside0.mk hy85115
      clear hy85115
      by_cases c4 : y85115.length + l0_4.length < 4398046511104
      · rw [if_pos c4] at H
        have LMc4 := Aside0.mk c4
        clear c4
        obtain ⟨y85118, hy85118⟩ : ∃ y_ : List (S76), y_ = (y85115 ++ l0_4) := ⟨_, rfl⟩
        replace H : (some (a0_0, a0_1, y85106, y85112, y85118)) = some (r1, r2, r3, r4, r5) := by first | (rw [hy85118]; with_reducible exact H) | (have H2_ := (Option.bind_some _ _).symm.trans H; rw [hy85118]; with_reducible exact H2_) | (have H2_ := (Option.bind_some _ _).symm.trans H; with_reducible exact H2_) | with_reducible exact H | (rw [hy85118]; exact H) | exact H
        have Ny85118 := Aside0.mk hy85118
        clear hy85118
        simp only [Option.some.injEq, Prod.mk.injEq] at H
        obtain ⟨rfl, rfl, rfl, rfl, rfl⟩ := H
        go_enter Try.func85, Try.ntmps85
        go_wp2_with (first | ((with_reducible refine gate_dst (N := 1) rfl ?_); refine box_event ?hg (N := 1) ?hd (cs := #[.int .u32 a0_0, .string a0_1, .slice A0_2 l0_2.length c0_2, .slice A0_3 l0_3.length c0_3, .slice A0_4 l0_4.length c0_4]) (t := 62) ?hr ?_; (case hd => rfl); (case hg => rfl); (case hr => first | (go_simp; done) | (go_simp; rfl)); intro gb85101 hg w5 hbox hb; have n0_ := Aside0.mk (below_step (by repeat (first | (with_reducible first | exact HB.out | apply below_alloc | apply pw_below_drewN | apply below_drew1) | exact HB.out)) hb); have n1_ := Aside0.mk (hbox); have n2_ := Aside0.mk ((by rw [hg]; exact (below_size (by repeat (first | (with_reducible first | exact HB.out | apply below_alloc | apply pw_below_drewN | apply below_drew1) | exact HB.out))) : w.heap.size ≤ gb85101)); have n3_ := Aside0.mk ((by rw [hg]; exact (below_size (by repeat (first | (with_reducible first | exact HB.out | apply below_alloc | apply pw_below_drewN | apply below_drew1) | exact HB.out))) : w.heap.size ≤ gb85101)); clear HB; have HB := n0_; have BK85101 := n1_; have GW85101 := n2_; have GE85101 := n3_; clear n0_ n1_ n2_ n3_; clear hb hbox hg) | ((with_reducible refine gate_dst (N := 2) rfl ?_); refine box_event ?hg (N := 2) ?hd (cs := #[.int .u32 0, .string (⟨#[]⟩ : ByteArray), .slice none 0 0, .slice none 0 0, .slice none 0 0]) (t := 62) ?hr ?_; (case hd => rfl); (case hg => rfl); (case hr => first | (go_simp; done) | (go_simp; rfl)); intro gb85102 hg w6 hbox hb; have n0_ := Aside0.mk (blk_below (g := gb85101) (o := .cells #[.int .u32 a0_0, .string a0_1, .slice A0_2 l0_2.length c0_2, .slice A0_3 l0_3.length c0_3, .slice A0_4 l0_4.length c0_4] 62 (0, 0)) (by (with_reducible repeat (first | refine blk_drewN ?_ _ | refine blk_drew ?_ | refine blk_alloc ?_ _)); exact BK85101.out) hb); have n1_ := Aside0.mk (below_step (by repeat (first | (with_reducible first | exact HB.out | apply below_alloc | apply pw_below_drewN | apply below_drew1 | refine below_set ?_ GE85101.out) | exact HB.out)) hb); have n2_ := Aside0.mk (hbox); have n3_ := Aside0.mk ((by rw [hg]; exact (below_size (by repeat (first | (with_reducible first | exact HB.out | apply below_alloc | apply pw_below_drewN | apply below_drew1 | refine below_set ?_ GE85101.out) | exact HB.out))) : w.heap.size ≤ gb85102)); have n4_ := Aside0.mk ((by rw [hg]; exact (below_size (by repeat (first | (with_reducible first | exact HB.out | apply below_alloc | apply pw_below_drewN | apply below_drew1 | refine below_set ?_ GE85101.out) | exact HB.out))) : w.heap.size ≤ gb85102)); have n5_ := Aside0.mk ((by rw [hg]; exact Nat.ne_of_lt (blk_lt (g := gb85101) (o := .cells #[.int .u32 a0_0, .string a0_1, .slice A0_2 l0_2.length c0_2, .slice A0_3 l0_3.length c0_3, .slice A0_4 l0_4.length c0_4] 62 (0, 0)) (by (with_reducible repeat (first | refine blk_drewN ?_ _ | refine blk_drew ?_ | refine blk_alloc ?_ _)); exact BK85101.out)) : gb85101 ≠ gb85102)); have n6_ := Aside0.mk ((by rw [hg]; exact Nat.ne_of_gt (blk_lt (g := gb85101) (o := .cells #[.int .u32 a0_0, .string a0_1, .slice A0_2 l0_2.length c0_2, .slice A0_3 l0_3.length c0_3, .slice A0_4 l0_4.length c0_4] 62 (0, 0)) (by (with_reducible repeat (first | refine blk_drewN ?_ _ | refine blk_drew ?_ | refine blk_alloc ?_ _)); exact BK85101.out)) : gb85102 ≠ gb85101)); clear BK85101; clear HB; have BK85101 := n0_; have HB := n1_; have BK85102 := n2_; have GW85102 := n3_; have GE85102 := n4_; have NB85101_85102 := n5_; have NB85102_85101 := n6_; clear n0_ n1_ n2_ n3_ n4_ n5_ n6_; clear hb hbox hg) | ((with_reducible refine gate_dst (N := 3) rfl ?_); refine Kd.R_lit (Kd.int .i64) _ 3 ?hg (N := 3) ?hd (xs := ([] : List Int)) (inner := []) (ok := fun _ => True) (okp := fun _ => True) ?hr ?hp (fun _ hk => hk) trivial (Below.refl _ _) (Nat.le_refl _) (by simp) ?_; (case hd => rfl); (case hg => rfl); (case hr => first | (go_simp; done) | (go_simp; rfl)); (case hp => exact (Reps.none _ _)); intro v85104 w7 ho8 hb hg_ hnew_; clear hg_ hnew_; (first | rw [← Ny85103.out] at ho8 | (simp only [Int.reduceToNat] at ho8; rw [← Ny85103.out] at ho8)); have n0_ := Aside0.mk (Kd.R_lower ho8 (below_size (by repeat (first | (with_reducible first | exact HB.out | apply below_alloc | apply pw_below_drewN | apply below_drew1 | refine below_set ?_ GE85101.out | refine below_set ?_ GE85102.out) | exact HB.out)))); have n1_ := Aside0.mk (blk_below (g := gb85101) (o := .cells #[.int .u32 a0_0, .string a0_1, .slice A0_2 l0_2.length c0_2, .slice A0_3 l0_3.length c0_3, .slice A0_4 l0_4.length c0_4] 62 (0, 0)) (by (with_reducible repeat (first | refine blk_drewN ?_ _ | refine blk_drew ?_ | refine blk_alloc ?_ _)); exact BK85101.out) hb); have n2_ := Aside0.mk (blk_below (g := gb85102) (o := .cells #[.int .u32 0, .string (⟨#[]⟩ : ByteArray), .slice none 0 0, .slice none 0 0, .slice none 0 0] 62 (0, 0)) (by (with_reducible repeat (first | refine blk_drewN ?_ _ | refine blk_drew ?_ | refine blk_alloc ?_ _)); exact BK85102.out) hb); have n3_ := Aside0.mk (below_step (by repeat (first | (with_reducible first | exact HB.out | apply below_alloc | apply pw_below_drewN | apply below_drew1 | refine below_set ?_ GE85101.out | refine below_set ?_ GE85102.out) | exact HB.out)) hb); clear BK85101; clear BK85102; clear HB; have HO85105 := n0_; have BK85101 := n1_; have BK85102 := n2_; have HB := n3_; clear n0_ n1_ n2_ n3_; clear hb ho8; have hnb9 := NB85101_85102.out; have hnc9 := NB85102_85101.out; have hcz10_0 : w7.cell? ⟨gb85101, 0, none⟩ = some (.int .u32 a0_0) := (blk_cell BK85101.out 0).trans rfl; have hcz10_1 : w7.cell? ⟨gb85101, 1, none⟩ = some (.string a0_1) := (blk_cell BK85101.out 1).trans rfl; have hcz10_2 : w7.cell? ⟨gb85101, 2, none⟩ = some (.slice A0_2 l0_2.length c0_2) := (blk_cell BK85101.out 2).trans rfl; have hcz10_3 : w7.cell? ⟨gb85101, 3, none⟩ = some (.slice A0_3 l0_3.length c0_3) := (blk_cell BK85101.out 3).trans rfl; have hcz10_4 : w7.cell? ⟨gb85101, 4, none⟩ = some (.slice A0_4 l0_4.length c0_4) := (blk_cell BK85101.out 4).trans rfl; have hfz10_0 := blk_frozen BK85101.out 0; have hfz10_1 := blk_frozen BK85101.out 1; have hfz10_2 := blk_frozen BK85101.out 2; have hfz10_3 := blk_frozen BK85101.out 3; have hfz10_4 := blk_frozen BK85101.out 4) | ((with_reducible refine gate_builtin (b := .append) (xs := #[.tmp 3, .tmp 5]) rfl ?_); at_builtin; refine Kd.R_append_rows (Kd.int .i64) (w0 := w) w.heap.size rfl (.tmp 3) (.tmp 5) 31 3 (.int .i64 0) 8 rfl Try.underlying31 info3 rfl (by decide) (by omega) v85104 y85103 l0_2 _ _ _ (fun _ => True) (fun _ => False) rfl rfl ?aO ?aR (fun _ _ h => h) (fun _ h => h.elim) ?aF ?aB ?aS ?aL ?_; (case aR => repeat (first | exact (Kd.C_below HR0_2.out HB.out) | (with_reducible refine Kd.C_alloc ?_ _) | (with_reducible refine Kd.C_drewN ?_ _) | (with_reducible refine Kd.C_drew ?_))); (case aB => exact (by repeat (first | (with_reducible first | exact HB.out | apply below_alloc | apply pw_below_drewN | apply below_drew1 | refine below_set ?_ GE85101.out | refine below_set ?_ GE85102.out) | exact HB.out))); (case aF => exact (fun _ _ => trivial)); (case aO => exact (by (with_reducible repeat (first | apply Kd.R_alloc | apply Kd.R_drewN | apply Kd.R_drew)); exact HO85105.out)); (case aS => exact (below_size (by repeat (first | (with_reducible first | exact HB.out | apply below_alloc | apply pw_below_drewN | apply below_drew1 | refine below_set ?_ GE85101.out | refine below_set ?_ GE85102.out) | exact HB.out)))); (case aL => have := LMc2.out; omega); intro v85107 w11 ho hb hg hat; rw [← Ny85106.out] at ho; have n0_ := Aside0.mk (blk_grown (g := gb85101) (o := .cells #[.int .u32 a0_0, .string a0_1, .slice A0_2 l0_2.length c0_2, .slice A0_3 l0_3.length c0_3, .slice A0_4 l0_4.length c0_4] 62 (0, 0)) (by (with_reducible repeat (first | refine blk_drewN ?_ _ | refine blk_drew ?_ | refine blk_alloc ?_ _)); exact BK85101.out) hg (Kd.R_ne HO85105.out BK85101.out (by decide))); have n1_ := Aside0.mk (blk_grown (g := gb85102) (o := .cells #[.int .u32 0, .string (⟨#[]⟩ : ByteArray), .slice none 0 0, .slice none 0 0, .slice none 0 0] 62 (0, 0)) (by (with_reducible repeat (first | refine blk_drewN ?_ _ | refine blk_drew ?_ | refine blk_alloc ?_ _)); exact BK85102.out) hg (Kd.R_ne HO85105.out BK85102.out (by decide))); have n2_ := Aside0.mk (hb); have n3_ := Aside0.mk (ho); clear BK85101; clear BK85102; clear HB; clear HO85105; have BK85101 := n0_; have BK85102 := n1_; have HB := n2_; have HO85108 := n3_; clear n0_ n1_ n2_ n3_; clear ho hb hg hat; obtain ⟨Ao12, co12, eo12⟩ := Kd.R_slice HO85108.out; subst eo12; have hcz13_0 : w11.cell? ⟨gb85101, 0, none⟩ = some (.int .u32 a0_0) := (blk_cell BK85101.out 0).trans rfl; have hcz13_1 : w11.cell? ⟨gb85101, 1, none⟩ = some (.string a0_1) := (blk_cell BK85101.out 1).trans rfl; have hcz13_2 : w11.cell? ⟨gb85101, 2, none⟩ = some (.slice A0_2 l0_2.length c0_2) := (blk_cell BK85101.out 2).trans rfl; have hcz13_3 : w11.cell? ⟨gb85101, 3, none⟩ = some (.slice A0_3 l0_3.length c0_3) := (blk_cell BK85101.out 3).trans rfl; have hcz13_4 : w11.cell? ⟨gb85101, 4, none⟩ = some (.slice A0_4 l0_4.length c0_4) := (blk_cell BK85101.out 4).trans rfl; have hfz13_0 := blk_frozen BK85101.out 0; have hfz13_1 := blk_frozen BK85101.out 1; have hfz13_2 := blk_frozen BK85101.out 2; have hfz13_3 := blk_frozen BK85101.out 3; have hfz13_4 := blk_frozen BK85101.out 4) | ((with_reducible refine gate_dst (N := 8) rfl ?_); refine Kd.R_lit (Kd.int .i64) _ 3 ?hg (N := 8) ?hd (xs := ([] : List Int)) (inner := []) (ok := fun _ => True) (okp := fun _ => True) ?hr ?hp (fun _ hk => hk) trivial (Below.refl _ _) (Nat.le_refl _) (by simp) ?_; (case hd => rfl); (case hg => rfl); (case hr => first | (go_simp; done) | (go_simp; rfl)); (case hp => exact (Reps.none _ _)); intro v85110 w14 ho15 hb hg_ hnew_; clear hg_ hnew_; (first | rw [← Ny85109.out] at ho15 | (simp only [Int.reduceToNat] at ho15; rw [← Ny85109.out] at ho15)); have n0_ := Aside0.mk (Kd.R_elder' (by (with_reducible repeat (first | apply Kd.R_alloc | apply Kd.R_drewN | apply Kd.R_drew)); exact (Kd.R_mono (Kd.R_far (p := ⟨gb85101, 2, none⟩) (Kd.R_types HO85108.out BK85101.out (by decide)) (fun _ hk => hk.2) (.slice Ao12 y85106.length co12)) (fun _ h_ => h_.1))) (Kd.R_base ho15) hb); have n1_ := Aside0.mk (Kd.R_lower (Kd.R_new' ho15 (Kd.R_lt (by (with_reducible repeat (first | apply Kd.R_alloc | apply Kd.R_drewN | apply Kd.R_drew)); exact (Kd.R_mono (Kd.R_far (p := ⟨gb85101, 2, none⟩) (Kd.R_types HO85108.out BK85101.out (by decide)) (fun _ hk => hk.2) (.slice Ao12 y85106.length co12)) (fun _ h_ => h_.1))))) (below_size (by repeat (first | (with_reducible first | exact HB.out | apply below_alloc | apply pw_below_drewN | apply below_drew1 | refine below_set ?_ GE85101.out | refine below_set ?_ GE85102.out) | exact HB.out)))); have n2_ := Aside0.mk (blk_below (g := gb85101) (o := .cells #[.int .u32 a0_0, .string a0_1, .slice Ao12 y85106.length co12, .slice A0_3 l0_3.length c0_3, .slice A0_4 l0_4.length c0_4] 62 (0, 0)) (by (with_reducible repeat (first | refine blk_drewN ?_ _ | refine blk_drew ?_ | refine blk_alloc ?_ _)); refine blk_put (cs := #[.int .u32 a0_0, .string a0_1, .slice A0_2 l0_2.length c0_2, .slice A0_3 l0_3.length c0_3, .slice A0_4 l0_4.length c0_4]) ?_ 2 _ rfl; (with_reducible repeat (first | refine blk_drewN ?_ _ | refine blk_drew ?_ | refine blk_alloc ?_ _)); exact BK85101.out) hb); have n3_ := Aside0.mk (blk_below (g := gb85102) (o := .cells #[.int .u32 0, .string (⟨#[]⟩ : ByteArray), .slice none 0 0, .slice none 0 0, .slice none 0 0] 62 (0, 0)) (by (with_reducible repeat (first | refine blk_drewN ?_ _ | refine blk_drew ?_ | refine blk_alloc ?_ _)); refine blk_far ?_ NB85102_85101.out _; (with_reducible repeat (first | refine blk_drewN ?_ _ | refine blk_drew ?_ | refine blk_alloc ?_ _)); exact BK85102.out) hb); have n4_ := Aside0.mk (below_step (by repeat (first | (with_reducible first | exact HB.out | apply below_alloc | apply pw_below_drewN | apply below_drew1 | refine below_set ?_ GE85101.out | refine below_set ?_ GE85102.out) | exact HB.out)) hb); clear HO85108; clear BK85101; clear BK85102; clear HB; have HO85108 := n0_; have HO85111 := n1_; have BK85101 := n2_; have BK85102 := n3_; have HB := n4_; clear n0_ n1_ n2_ n3_ n4_; clear hb ho15; have hcz16_0 : w14.cell? ⟨gb85101, 0, none⟩ = some (.int .u32 a0_0) := (blk_cell BK85101.out 0).trans rfl; have hcz16_1 : w14.cell? ⟨gb85101, 1, none⟩ = some (.string a0_1) := (blk_cell BK85101.out 1).trans rfl; have hcz16_2 : w14.cell? ⟨gb85101, 2, none⟩ = some (.slice Ao12 y85106.length co12) := (blk_cell BK85101.out 2).trans rfl; have hcz16_3 : w14.cell? ⟨gb85101, 3, none⟩ = some (.slice A0_3 l0_3.length c0_3) := (blk_cell BK85101.out 3).trans rfl; have hcz16_4 : w14.cell? ⟨gb85101, 4, none⟩ = some (.slice A0_4 l0_4.length c0_4) := (blk_cell BK85101.out 4).trans rfl; have hfz16_0 := blk_frozen BK85101.out 0; have hfz16_1 := blk_frozen BK85101.out 1; have hfz16_2 := blk_frozen BK85101.out 2; have hfz16_3 := blk_frozen BK85101.out 3; have hfz16_4 := blk_frozen BK85101.out 4) | ((with_reducible refine gate_builtin (b := .append) (xs := #[.tmp 8, .tmp 10]) rfl ?_); at_builtin; refine Kd.R_append_rows (Kd.int .i64) (w0 := w) w.heap.size rfl (.tmp 8) (.tmp 10) 31 3 (.int .i64 0) 8 rfl Try.underlying31 info3 rfl (by decide) (by omega) v85110 y85109 l0_3 _ _ _ (fun k_ => some k_ ≠ (.slice Ao12 y85106.length co12 : Value).ownBlock) (fun _ => False) rfl rfl ?aO ?aR (fun _ _ h => h) (fun _ h => h.elim) ?aF ?aB ?aS ?aL ?_; (case aR => repeat (first | exact (Kd.C_below HR0_3.out HB.out) | (with_reducible refine Kd.C_alloc ?_ _) | (with_reducible refine Kd.C_drewN ?_ _) | (with_reducible refine Kd.C_drew ?_))); (case aB => exact (by repeat (first | (with_reducible first | exact HB.out | apply below_alloc | apply pw_below_drewN | apply below_drew1 | refine below_set ?_ GE85101.out | refine below_set ?_ GE85102.out) | exact HB.out))); (case aF => exact (fun k_ hk => Kd.fresh' (Kd.R_lt (by (with_reducible repeat (first | apply Kd.R_alloc | apply Kd.R_drewN | apply Kd.R_drew)); exact HO85108.out)) k_ hk)); (case aO => exact (by (with_reducible repeat (first | apply Kd.R_alloc | apply Kd.R_drewN | apply Kd.R_drew)); exact Kd.R_mono HO85111.out (fun _ hk => hk.2))); (case aS => exact (below_size (by repeat (first | (with_reducible first | exact HB.out | apply below_alloc | apply pw_below_drewN | apply below_drew1 | refine below_set ?_ GE85101.out | refine below_set ?_ GE85102.out) | exact HB.out)))); (case aL => have := LMc3.out; omega); intro v85113 w17 ho hb hg hat; rw [← Ny85112.out] at ho; have n0_ := Aside0.mk (blk_grown (g := gb85101) (o := .cells #[.int .u32 a0_0, .string a0_1, .slice Ao12 y85106.length co12, .slice A0_3 l0_3.length c0_3, .slice A0_4 l0_4.length c0_4] 62 (0, 0)) (by (with_reducible repeat (first | refine blk_drewN ?_ _ | refine blk_drew ?_ | refine blk_alloc ?_ _)); exact BK85101.out) hg (Kd.R_ne HO85111.out BK85101.out (by decide))); have n1_ := Aside0.mk (blk_grown (g := gb85102) (o := .cells #[.int .u32 0, .string (⟨#[]⟩ : ByteArray), .slice none 0 0, .slice none 0 0, .slice none 0 0] 62 (0, 0)) (by (with_reducible repeat (first | refine blk_drewN ?_ _ | refine blk_drew ?_ | refine blk_alloc ?_ _)); exact BK85102.out) hg (Kd.R_ne HO85111.out BK85102.out (by decide))); have n2_ := Aside0.mk (Kd.R_after (ok := (fun _ => True)) (by (with_reducible repeat (first | apply Kd.R_alloc | apply Kd.R_drewN | apply Kd.R_drew)); exact HO85108.out) hg hat); have n3_ := Aside0.mk (hb); have n4_ := Aside0.mk (ho); clear BK85101; clear BK85102; clear HO85108; clear HB; clear HO85111; have BK85101 := n0_; have BK85102 := n1_; have HO85108 := n2_; have HB := n3_; have HO85114 := n4_; clear n0_ n1_ n2_ n3_ n4_; clear ho hb hg hat; obtain ⟨Ao18, co18, eo18⟩ := Kd.R_slice HO85114.out; subst eo18; have hcz19_0 : w17.cell? ⟨gb85101, 0, none⟩ = some (.int .u32 a0_0) := (blk_cell BK85101.out 0).trans rfl; have hcz19_1 : w17.cell? ⟨gb85101, 1, none⟩ = some (.string a0_1) := (blk_cell BK85101.out 1).trans rfl; have hcz19_2 : w17.cell? ⟨gb85101, 2, none⟩ = some (.slice Ao12 y85106.length co12) := (blk_cell BK85101.out 2).trans rfl; have hcz19_3 : w17.cell? ⟨gb85101, 3, none⟩ = some (.slice A0_3 l0_3.length c0_3) := (blk_cell BK85101.out 3).trans rfl; have hcz19_4 : w17.cell? ⟨gb85101, 4, none⟩ = some (.slice A0_4 l0_4.length c0_4) := (blk_cell BK85101.out 4).trans rfl; have hfz19_0 := blk_frozen BK85101.out 0; have hfz19_1 := blk_frozen BK85101.out 1; have hfz19_2 := blk_frozen BK85101.out 2; have hfz19_3 := blk_frozen BK85101.out 3; have hfz19_4 := blk_frozen BK85101.out 4) | ((with_reducible refine gate_dst (N := 13) rfl ?_); refine Kd.R_lit k76 _ 76 ?hg (N := 13) ?hd (xs := ([] : List (S76))) (inner := []) (ok := fun _ => True) (okp := fun _ => True) ?hr ?hp (fun _ hk => hk) trivial (Below.refl _ _) (Nat.le_refl _) (by simp) ?_; (case hd => rfl); (case hg => rfl); (case hr => first | (go_simp; done) | (go_simp; rfl)); (case hp => exact (Reps.none _ _)); intro v85116 w20 ho21 hb hg_ hnew_; clear hg_ hnew_; (first | rw [← Ny85115.out] at ho21 | (simp only [Int.reduceToNat] at ho21; rw [← Ny85115.out] at ho21)); have n0_ := Aside0.mk (Kd.R_below (by (with_reducible repeat (first | apply Kd.R_alloc | apply Kd.R_drewN | apply Kd.R_drew)); exact (Kd.R_mono (Kd.R_far (p := ⟨gb85101, 3, none⟩) (Kd.R_types HO85108.out BK85101.out (by decide)) (fun _ hk => hk.2) (.slice Ao18 y85112.length co18)) (fun _ h_ => h_.1))) hb); have n1_ := Aside0.mk (Kd.R_below (by (with_reducible repeat (first | apply Kd.R_alloc | apply Kd.R_drewN | apply Kd.R_drew)); exact (Kd.R_mono (Kd.R_far (p := ⟨gb85101, 3, none⟩) (Kd.R_types HO85114.out BK85101.out (by decide)) (fun _ hk => hk.2) (.slice Ao18 y85112.length co18)) (fun _ h_ => h_.1))) hb); have n2_ := Aside0.mk (Kd.R_lower ho21 (below_size (by repeat (first | (with_reducible first | exact HB.out | apply below_alloc | apply pw_below_drewN | apply below_drew1 | refine below_set ?_ GE85101.out | refine below_set ?_ GE85102.out) | exact HB.out)))); have n3_ := Aside0.mk (blk_below (g := gb85101) (o := .cells #[.int .u32 a0_0, .string a0_1, .slice Ao12 y85106.length co12, .slice Ao18 y85112.length co18, .slice A0_4 l0_4.length c0_4] 62 (0, 0)) (by (with_reducible repeat (first | refine blk_drewN ?_ _ | refine blk_drew ?_ | refine blk_alloc ?_ _)); refine blk_put (cs := #[.int .u32 a0_0, .string a0_1, .slice Ao12 y85106.length co12, .slice A0_3 l0_3.length c0_3, .slice A0_4 l0_4.length c0_4]) ?_ 3 _ rfl; (with_reducible repeat (first | refine blk_drewN ?_ _ | refine blk_drew ?_ | refine blk_alloc ?_ _)); exact BK85101.out) hb); have n4_ := Aside0.mk (blk_below (g := gb85102) (o := .cells #[.int .u32 0, .string (⟨#[]⟩ : ByteArray), .slice none 0 0, .slice none 0 0, .slice none 0 0] 62 (0, 0)) (by (with_reducible repeat (first | refine blk_drewN ?_ _ | refine blk_drew ?_ | refine blk_alloc ?_ _)); refine blk_far ?_ NB85102_85101.out _; (with_reducible repeat (first | refine blk_drewN ?_ _ | refine blk_drew ?_ | refine blk_alloc ?_ _)); exact BK85102.out) hb); have n5_ := Aside0.mk (below_step (by repeat (first | (with_reducible first | exact HB.out | apply below_alloc | apply pw_below_drewN | apply below_drew1 | refine below_set ?_ GE85101.out | refine below_set ?_ GE85102.out) | exact HB.out)) hb); clear HO85108; clear HO85114; clear BK85101; clear BK85102; clear HB; have HO85108 := n0_; have HO85114 := n1_; have HO85117 := n2_; have BK85101 := n3_; have BK85102 := n4_; have HB := n5_; clear n0_ n1_ n2_ n3_ n4_ n5_; clear hb ho21; have hcz22_0 : w20.cell? ⟨gb85101, 0, none⟩ = some (.int .u32 a0_0) := (blk_cell BK85101.out 0).trans rfl; have hcz22_1 : w20.cell? ⟨gb85101, 1, none⟩ = some (.string a0_1) := (blk_cell BK85101.out 1).trans rfl; have hcz22_2 : w20.cell? ⟨gb85101, 2, none⟩ = some (.slice Ao12 y85106.length co12) := (blk_cell BK85101.out 2).trans rfl; have hcz22_3 : w20.cell? ⟨gb85101, 3, none⟩ = some (.slice Ao18 y85112.length co18) := (blk_cell BK85101.out 3).trans rfl; have hcz22_4 : w20.cell? ⟨gb85101, 4, none⟩ = some (.slice A0_4 l0_4.length c0_4) := (blk_cell BK85101.out 4).trans rfl; have hfz22_0 := blk_frozen BK85101.out 0; have hfz22_1 := blk_frozen BK85101.out 1; have hfz22_2 := blk_frozen BK85101.out 2; have hfz22_3 := blk_frozen BK85101.out 3; have hfz22_4 := blk_frozen BK85101.out 4) | ((with_reducible refine gate_builtin (b := .append) (xs := #[.tmp 13, .tmp 15]) rfl ?_); at_builtin; refine Kd.R_append_rows k76 (w0 := w) w.heap.size rfl (.tmp 13) (.tmp 15) 49 76 (.agg #[(.string ⟨#[]⟩), (.string ⟨#[]⟩)]) 32 rfl Try.underlying49 info76 rfl (by decide) (by omega) v85116 y85115 l0_4 _ _ _ (fun _ => True) (fun _ => False) rfl rfl ?aO ?aR (fun _ _ h => h) (fun _ h => h.elim) ?aF ?aB ?aS ?aL ?_; (case aR => repeat (first | exact (Kd.C_below HR0_4.out HB.out) | (with_reducible refine Kd.C_alloc ?_ _) | (with_reducible refine Kd.C_drewN ?_ _) | (with_reducible refine Kd.C_drew ?_))); (case aB => exact (by repeat (first | (with_reducible first | exact HB.out | apply below_alloc | apply pw_below_drewN | apply below_drew1 | refine below_set ?_ GE85101.out | refine below_set ?_ GE85102.out) | exact HB.out))); (case aF => exact (fun _ _ => trivial)); (case aO => exact (by (with_reducible repeat (first | apply Kd.R_alloc | apply Kd.R_drewN | apply Kd.R_drew)); exact HO85117.out)); (case aS => exact (below_size (by repeat (first | (with_reducible first | exact HB.out | apply below_alloc | apply pw_below_drewN | apply below_drew1 | refine below_set ?_ GE85101.out | refine below_set ?_ GE85102.out) | exact HB.out)))); (case aL => have := LMc4.out; omega); intro v85119 w23 ho hb hg hat; rw [← Ny85118.out] at ho; have n0_ := Aside0.mk (blk_grown (g := gb85101) (o := .cells #[.int .u32 a0_0, .string a0_1, .slice Ao12 y85106.length co12, .slice Ao18 y85112.length co18, .slice A0_4 l0_4.length c0_4] 62 (0, 0)) (by (with_reducible repeat (first | refine blk_drewN ?_ _ | refine blk_drew ?_ | refine blk_alloc ?_ _)); exact BK85101.out) hg (Kd.R_ne HO85117.out BK85101.out (by decide))); have n1_ := Aside0.mk (blk_grown (g := gb85102) (o := .cells #[.int .u32 0, .string (⟨#[]⟩ : ByteArray), .slice none 0 0, .slice none 0 0, .slice none 0 0] 62 (0, 0)) (by (with_reducible repeat (first | refine blk_drewN ?_ _ | refine blk_drew ?_ | refine blk_alloc ?_ _)); exact BK85102.out) hg (Kd.R_ne HO85117.out BK85102.out (by decide))); have n2_ := Aside0.mk (Kd.R_over' (by (with_reducible repeat (first | apply Kd.R_alloc | apply Kd.R_drewN | apply Kd.R_drew)); exact HO85108.out) (Kd.R_typed (by (with_reducible repeat (first | apply Kd.R_alloc | apply Kd.R_drewN | apply Kd.R_drew)); exact HO85117.out)) (by decide) hg); have n3_ := Aside0.mk (Kd.R_over' (by (with_reducible repeat (first | apply Kd.R_alloc | apply Kd.R_drewN | apply Kd.R_drew)); exact HO85114.out) (Kd.R_typed (by (with_reducible repeat (first | apply Kd.R_alloc | apply Kd.R_drewN | apply Kd.R_drew)); exact HO85117.out)) (by decide) hg); have n4_ := Aside0.mk (hb); have n5_ := Aside0.mk (ho); clear BK85101; clear BK85102; clear HO85108; clear HO85114; clear HB; clear HO85117; have BK85101 := n0_; have BK85102 := n1_; have HO85108 := n2_; have HO85114 := n3_; have HB := n4_; have HO85120 := n5_; clear n0_ n1_ n2_ n3_ n4_ n5_; clear ho hb hg hat; obtain ⟨Ao24, co24, eo24⟩ := Kd.R_slice HO85120.out; subst eo24; have hcz25_0 : w23.cell? ⟨gb85101, 0, none⟩ = some (.int .u32 a0_0) := (blk_cell BK85101.out 0).trans rfl; have hcz25_1 : w23.cell? ⟨gb85101, 1, none⟩ = some (.string a0_1) := (blk_cell BK85101.out 1).trans rfl; have hcz25_2 : w23.cell? ⟨gb85101, 2, none⟩ = some (.slice Ao12 y85106.length co12) := (blk_cell BK85101.out 2).trans rfl; have hcz25_3 : w23.cell? ⟨gb85101, 3, none⟩ = some (.slice Ao18 y85112.length co18) := (blk_cell BK85101.out 3).trans rfl; have hcz25_4 : w23.cell? ⟨gb85101, 4, none⟩ = some (.slice A0_4 l0_4.length c0_4) := (blk_cell BK85101.out 4).trans rfl; have hfz25_0 := blk_frozen BK85101.out 0; have hfz25_1 := blk_frozen BK85101.out 1; have hfz25_2 := blk_frozen BK85101.out 2; have hfz25_3 := blk_frozen BK85101.out 3; have hfz25_4 := blk_frozen BK85101.out 4; have hcz26_0 : w23.cell? ⟨gb85102, 0, none⟩ = some (.int .u32 0) := (blk_cell BK85102.out 0).trans rfl; have hcz26_1 : w23.cell? ⟨gb85102, 1, none⟩ = some (.string (⟨#[]⟩ : ByteArray)) := (blk_cell BK85102.out 1).trans rfl; have hcz26_2 : w23.cell? ⟨gb85102, 2, none⟩ = some (.slice none 0 0) := (blk_cell BK85102.out 2).trans rfl; have hcz26_3 : w23.cell? ⟨gb85102, 3, none⟩ = some (.slice none 0 0) := (blk_cell BK85102.out 3).trans rfl; have hcz26_4 : w23.cell? ⟨gb85102, 4, none⟩ = some (.slice none 0 0) := (blk_cell BK85102.out 4).trans rfl; have hfz26_0 := blk_frozen BK85102.out 0; have hfz26_1 := blk_frozen BK85102.out 1; have hfz26_2 := blk_frozen BK85102.out 2; have hfz26_3 := blk_frozen BK85102.out 3; have hfz26_4 := blk_frozen BK85102.out 4))
        refine bodyPost_ret (results_cell_row rfl _ _ gb85102 62 #[.int .u32 a0_0, .string a0_1, .slice Ao12 y85106.length co12, .slice Ao18 y85112.length co18, .slice Ao24 y85118.length co24] (0, 0) _ rfl (by (with_reducible repeat (first | refine blk_drewN ?_ _ | refine blk_drew ?_ | refine blk_alloc ?_ _)); refine blk_put (cs := #[.int .u32 a0_0, .string a0_1, .slice Ao12 y85106.length co12, .slice Ao18 y85112.length co18, .slice none 0 0]) ?_ 4 _ rfl; (with_reducible repeat (first | refine blk_drewN ?_ _ | refine blk_drew ?_ | refine blk_alloc ?_ _)); refine blk_put (cs := #[.int .u32 a0_0, .string a0_1, .slice Ao12 y85106.length co12, .slice none 0 0, .slice none 0 0]) ?_ 3 _ rfl; (with_reducible repeat (first | refine blk_drewN ?_ _ | refine blk_drew ?_ | refine blk_alloc ?_ _)); refine blk_put (cs := #[.int .u32 a0_0, .string a0_1, .slice none 0 0, .slice none 0 0, .slice none 0 0]) ?_ 2 _ rfl; (with_reducible repeat (first | refine blk_drewN ?_ _ | refine blk_drew ?_ | refine blk_alloc ?_ _)); refine blk_put (cs := #[.int .u32 a0_0, .string (⟨#[]⟩ : ByteArray), .slice none 0 0, .slice none 0 0, .slice none 0 0]) ?_ 1 _ rfl; (with_reducible repeat (first | refine blk_drewN ?_ _ | refine blk_drew ?_ | refine blk_alloc ?_ _)); refine blk_put (cs := #[.int .u32 0, .string (⟨#[]⟩ : ByteArray), .slice none 0 0, .slice none 0 0, .slice none 0 0]) ?_ 0 _ rfl; (with_reducible repeat (first | refine blk_drewN ?_ _ | refine blk_drew ?_ | refine blk_alloc ?_ _)); refine blk_far ?_ NB85102_85101.out _; (with_reducible repeat (first | refine blk_drewN ?_ _ | refine blk_drew ?_ | refine blk_alloc ?_ _)); exact BK85102.out) Try.underlying62 rfl (by kernel_rfl)) rfl ?_
        exact ⟨_, _, _, by first | rfl | (simp [errW_none, errW_some] <;> rfl) | (simp [*, errW_none, errW_some] <;> rfl), by (with_reducible repeat (first | apply Kd.R_alloc | apply Kd.R_drewN | apply Kd.R_drew)); exact Kd.R_mono (Kd.R_far (p := ⟨gb85102, 4, none⟩) (Kd.R_far (p := ⟨gb85102, 3, none⟩) (Kd.R_far (p := ⟨gb85102, 2, none⟩) (Kd.R_far (p := ⟨gb85102, 1, none⟩) (Kd.R_far (p := ⟨gb85102, 0, none⟩) (Kd.R_far (p := ⟨gb85101, 4, none⟩) (Kd.R_types (Kd.R_types HO85108.out BK85101.out (by decide)) BK85102.out (by decide)) (fun _ hk => hk.1.2) (.slice Ao24 y85118.length co24)) (fun _ hk => hk.2) (.int .u32 a0_0)) (fun _ hk => hk.2) (.string a0_1)) (fun _ hk => hk.2) (.slice Ao12 y85106.length co12)) (fun _ hk => hk.2) (.slice Ao18 y85112.length co18)) (fun _ hk => hk.2) (.slice Ao24 y85118.length co24)) (fun _ hk => hk.1.1.2), by (with_reducible repeat (first | apply Kd.R_alloc | apply Kd.R_drewN | apply Kd.R_drew)); exact Kd.R_mono (Kd.R_far (p := ⟨gb85102, 4, none⟩) (Kd.R_far (p := ⟨gb85102, 3, none⟩) (Kd.R_far (p := ⟨gb85102, 2, none⟩) (Kd.R_far (p := ⟨gb85102, 1, none⟩) (Kd.R_far (p := ⟨gb85102, 0, none⟩) (Kd.R_far (p := ⟨gb85101, 4, none⟩) (Kd.R_types (Kd.R_types HO85114.out BK85101.out (by decide)) BK85102.out (by decide)) (fun _ hk => hk.1.2) (.slice Ao24 y85118.length co24)) (fun _ hk => hk.2) (.int .u32 a0_0)) (fun _ hk => hk.2) (.string a0_1)) (fun _ hk => hk.2) (.slice Ao12 y85106.length co12)) (fun _ hk => hk.2) (.slice Ao18 y85112.length co18)) (fun _ hk => hk.2) (.slice Ao24 y85118.length co24)) (fun _ hk => hk.1.1), by (with_reducible repeat (first | apply Kd.R_alloc | apply Kd.R_drewN | apply Kd.R_drew)); exact Kd.R_mono (Kd.R_far (p := ⟨gb85102, 4, none⟩) (Kd.R_far (p := ⟨gb85102, 3, none⟩) (Kd.R_far (p := ⟨gb85102, 2, none⟩) (Kd.R_far (p := ⟨gb85102, 1, none⟩) (Kd.R_far (p := ⟨gb85102, 0, none⟩) (Kd.R_far (p := ⟨gb85101, 4, none⟩) (Kd.R_types (Kd.R_types HO85120.out BK85101.out (by decide)) BK85102.out (by decide)) (fun _ hk => hk.1.2) (.slice Ao24 y85118.length co24)) (fun _ hk => hk.2) (.int .u32 a0_0)) (fun _ hk => hk.2) (.string a0_1)) (fun _ hk => hk.2) (.slice Ao12 y85106.length co12)) (fun _ hk => hk.2) (.slice Ao18 y85112.length co18)) (fun _ hk => hk.2) (.slice Ao24 y85118.length co24)) (fun _ hk => trivial), by repeat (first | (with_reducible first | exact HB.out | apply below_alloc | apply pw_below_drewN | apply below_drew1 | refine below_set ?_ GE85101.out | refine below_set ?_ GE85102.out) | exact HB.out)⟩
      · rw [if_neg c4] at H
        exact absurd H (by simp)
    · rw [if_neg c3] at H
      exact absurd H (by simp)
  · rw [if_neg c2] at H
    exact absurd H (by simp)
end Go.Proofs.Ytemhalnhbgkbcaa.V
end

-- VE76
section
-- PRINTED by print.py (a twelfth state) out of the translation. Not trusted: Lean checks it.
namespace Go.Proofs.Ytemhalnhbgkbcaa.V
open Go.RowKit Go.Proofs.YtemhalnhbgkbcaaW.PrintWords Go.Proofs.YtemhalnhbgkbcaaW.PrintLast Go.Proofs.YtemhalnhbgkbcaaW.PrintMore
attribute [local go_sem] max2_int min2_int max_two min_two max_three min_three max_four min_four   -- for this text's walks alone
set_option linter.unusedVariables false
set_option linter.unusedSimpArgs false

theorem eqA76 (d : Nat) (w : World) (x0 y0 : ByteArray) (x1 y1 : ByteArray) :
    (Op.equalIn (d + 2) 76 (.agg #[.string x0, .string x1]) (.agg #[.string y0, .string y1])).run Try.prog w = .ok (x0.toList == y0.toList && (x1.toList == y1.toList)) w := by
  refine eqA_of Try.underlying76 (by kernel_rfl) ?_
  refine eqf_cons (by rfl) (by go_simp; rfl) (by go_simp; rfl) (by go_simp) ?_
  exact eqf_last (by rfl) (by go_simp; rfl) (by go_simp; rfl) (by go_simp)
end Go.Proofs.Ytemhalnhbgkbcaa.V
end

-- BRefB
section
/- The document's blocks, as values; Copy. -/
namespace Go.Proofs.Ytemhalnhbgkbcaa.V
open Go.RowKit Go.Proofs.YtemhalnhbgkbcaaW.PrintWords Go.Proofs.YtemhalnhbgkbcaaW.PrintLast Go.Proofs.YtemhalnhbgkbcaaW.PrintMore
set_option linter.unusedVariables false
set_option linter.unusedSimpArgs false

abbrev RAt := S76
/-- The document's block as cells. -/
abbrev rbL (a : Int) (s : ByteArray) (vs vf va : Value) : List Value := [.int .u32 a, .string s, vs, vf, va]
/-- Its rows, read. -/
structure RbR (W : World) (b : Bk) (M : List RAt) (As : Option Addr) (cs : Nat) (Af : Option Addr) (cf : Nat) (Aa : Option Addr) (ca : Nat) : Prop where
  m : M = b.attrs.map vc
  sr : Kd.C (Kd.int .i64) W As b.slots.length b.slots
  sc : b.slots.length ≤ cs
  fr : Kd.C (Kd.int .i64) W Af b.free.length b.free
  fc : b.free.length ≤ cf
  ar : Kd.C k76 W Aa M.length M
  ac : M.length ≤ ca
theorem RbR.below {W W1 : World} {b : Bk} {M : List RAt} {As : Option Addr} {cs : Nat} {Af : Option Addr} {cf : Nat} {Aa : Option Addr} {ca : Nat} (h : RbR W b M As cs Af cf Aa ca) (hb : Below W.heap.size W W1) : RbR W1 b M As cs Af cf Aa ca := ⟨h.m, Kd.C_below h.sr hb, h.sc, Kd.C_below h.fr hb, h.fc, Kd.C_below h.ar hb, h.ac⟩
def RbV (W : World) (v : Value) (b : Bk) : Prop := ∃ M As cs Af cf Aa ca, v = .agg (rbL b.addr b.aff (.slice As b.slots.length cs) (.slice Af b.free.length cf) (.slice Aa M.length ca)).toArray ∧ RbR W b M As cs Af cf Aa ca
theorem RbV.below {W W1 : World} {v : Value} {b : Bk} (h : RbV W v b) (hb : Below W.heap.size W W1) : RbV W1 v b := by
  obtain ⟨M, As, cs, Af, cf, Aa, ca, e, hr⟩ := h
  exact ⟨M, As, cs, Af, cf, Aa, ca, e, hr.below hb⟩
/-- Rows of the call's own. -/
def RbO (W : World) (base : Nat) (v : Value) (b : Bk) : Prop := ∃ vs vf va, v = .agg (rbL b.addr b.aff vs vf va).toArray ∧ Kd.R (Kd.int .i64) 3 W base (fun _ => True) vs b.slots ∧ Kd.R (Kd.int .i64) 3 W base (fun _ => True) vf b.free ∧ Kd.R k76 76 W base (fun _ => True) va (b.attrs.map vc)
theorem RbO.below {W W1 : World} {base : Nat} {v : Value} {b : Bk} (h : RbO W base v b) (hb : Below W.heap.size W W1) : RbO W1 base v b := by
  obtain ⟨vs, vf, va, rfl, h1, h2, h3⟩ := h
  exact ⟨vs, vf, va, rfl, Kd.R_below h1 hb, Kd.R_below h2 hb, Kd.R_below h3 hb⟩
theorem RbO.lower {W : World} {base base' : Nat} {v : Value} {b : Bk} (h : RbO W base v b) (hb : base' ≤ base) : RbO W base' v b := by
  obtain ⟨vs, vf, va, rfl, h1, h2, h3⟩ := h
  exact ⟨vs, vf, va, rfl, Kd.R_lower h1 hb, Kd.R_lower h2 hb, Kd.R_lower h3 hb⟩
/-! ### Rows of numbers -/
theorem R_cellI {k : IntKind} {e base n cap g : Nat} {ok : Nat → Prop} {W : World} {xs : List Int} (h : Kd.R (Kd.int k) e W base ok (.slice (some ⟨g, 0, none⟩) n cap) xs) (j : Nat) (hj : j < n) : W.cell? ⟨g, j, none⟩ = some (.int k (rd xs j)) ∧ W.frozen? ⟨g, j, none⟩ = false := by
  have hn := (Kd.R_reads' h).1
  obtain ⟨ad, eA, hx⟩ := Kd.at_int (Kd.R_reads' h).2.2 j (by omega) (by omega)
  cases eA
  rw [Int.toNat_natCast, add_plain] at hx
  refine ⟨hx, ?_⟩
  obtain ⟨ce, hcl, _, hcc, hcf⟩ := Kd.R_elem h 0 (j : Int) (by omega) (by omega)
  have h2 := hcf 0
  rwa [show ((j : Int).toNat * (Kd.int k).sz + 0) = j by show (j : Int).toNat * 1 + 0 = j; omega] at h2
/-! ### Where an attribute is -/
end Go.Proofs.Ytemhalnhbgkbcaa.V
end

-- BAwake
section
/- virgatelaw15.awake: chapter 15's example. -/
namespace Go.Proofs.Ytemhalnhbgkbcaa.V
open Go.RowKit Go.Proofs.YtemhalnhbgkbcaaW.PrintWords Go.Proofs.YtemhalnhbgkbcaaW.PrintLast Go.Proofs.YtemhalnhbgkbcaaW.PrintMore
set_option linter.unusedVariables false
set_option linter.unusedSimpArgs false

def w15s : ByteArray := ⟨#[110]⟩
def w15b : Bk := newBk 167772165 w15s
def w15a : At := ⟨⟨#[104]⟩, ⟨#[110]⟩⟩
def w15c : Bk := asgBk w15b 2 w15a
def w15l : List Int := asgOut w15b 2
def w15d : Bk := relBk w15c w15l
def w15m : List Int := (relL w15c w15l).2
def u8all (l : List Int) : Bool := l.all (fun x => decide (0 ≤ x) && decide (x < 256))
theorem U8s_all {l : List Int} (h : u8all l = true) : U8s l := fun x hx => by
  have := List.all_eq_true.1 h x hx
  simpa using this
theorem w15b_ok : BkOk w15b := ⟨by decide, by decide, U8s_all (by kernel_rfl), U8s_all (by kernel_rfl)⟩
theorem w15c_ok : BkOk w15c := ⟨by decide, by decide, U8s_all (by kernel_rfl), U8s_all (by kernel_rfl)⟩
theorem w15d_ok : BkOk w15d := ⟨by decide, by decide, U8s_all (by kernel_rfl), U8s_all (by kernel_rfl)⟩
theorem w15_own : ownerB w15s = true := by kernel_rfl
theorem w15_asg : asgOk w15b 2 w15a = true := by kernel_rfl
theorem w15c_right : rightB w15c = true := by kernel_rfl
theorem w15d_right : rightB w15d = true := by kernel_rfl
theorem w15_min : min (2 : Int).toNat w15b.free.length = 2 := by kernel_rfl
theorem w15l_eq : w15l = [167772160, 167772161] := by kernel_rfl
theorem w15m_len : w15m.length = 2 := by kernel_rfl
theorem w15d_len : w15d.free.length = 64 := by kernel_rfl
theorem w15d_63 : rd w15d.free 63 = 1 := by kernel_rfl
theorem w15_new (w : World) : Calls Try.prog 41 #[.int .u32 167772165, .string w15s] w fun e w' => ∃ v, e = .returned (.tuple #[v, .int .i64 0]) ∧ BkO w' w.heap.size v w15b ∧ Below w.heap.size w w' := by
  have h := new_any 167772165 (by decide) (by decide) w15s w
  rw [w15_own] at h
  exact h
theorem w15_assign (v : Value) (w : World) (h : BkV w v w15b) : Calls Try.prog 49 #[v, .int .i64 2, .agg #[.string ⟨#[104]⟩, .string ⟨#[110]⟩]] w fun e w' => ∃ v' vo, e = .returned (.tuple #[v', vo, .int .i64 0]) ∧ BkO w' w.heap.size v' w15c ∧ Kd.R (Kd.int .u32) 46 w' w.heap.size (fun _ => True) vo w15l ∧ Below w.heap.size w w' := by
  have h2 := assign_any w15b w15b_ok 2 (by decide) w15a v w h
  rw [w15_asg, w15_min] at h2
  exact h2
theorem w15_release (Al : Option Addr) (cl : Nat) (v : Value) (w : World) (h : BkV w v w15c) (hC : Kd.C (Kd.int .u32) w Al w15l.length w15l) : Calls Try.prog 52 #[v, .slice Al w15l.length cl] w fun e w' => ∃ v' vo, e = .returned (.tuple #[v', vo, .int .i64 0]) ∧ BkO w' w.heap.size v' w15d ∧ Kd.R (Kd.int .u32) 46 w' w.heap.size (fun _ => True) vo w15m ∧ Below w.heap.size w w' := by
  have h2 := release_any w15c w15c_ok w15l (by rw [w15l_eq]; decide) (by rw [w15l_eq]; decide) Al cl v w h hC
  rw [w15c_right] at h2
  exact h2
theorem w15_empty (v : Value) (w : World) (h : BkV w v w15d) : Calls Try.prog 57 #[v] w fun e w' => e = .returned (.bool true) ∧ Below w.heap.size w w' := by
  have h2 := empty_any w15d w15d_ok v w h
  rw [w15d_right, w15d_len] at h2
  exact h2
set_option maxHeartbeats 16000000 in
set_option maxRecDepth 100000 in
theorem awake15_any (w : World) : Calls Try.prog 44 #[] w fun e w' => e = .returned (.bool true) ∧ Below w.heap.size w w' := by
  have HN := Aside0.mk (fun w => w15_new w)
  have HA := Aside0.mk (fun v w h => w15_assign v w h)
  have HE := Aside0.mk (fun v w h => w15_empty v w h)
  have HRL := Aside0.mk (fun A c v w h hC => w15_release A c v w h hC)
  have hll : w15l.length = 2 := by rw [w15l_eq]; rfl
  have hl1 : rd w15l 1 = 167772161 := by rw [w15l_eq]; rfl
  have hml : w15m.length = 2 := w15m_len
  have hdl : w15d.free.length = 64 := w15d_len
  have hd6 : rd w15d.free 63 = 1 := w15d_63
  have HB_0 := Aside0.mk (Below.refl w.heap.size w)
  unfold w15s at HN
  generalize w15l = l at *
  generalize w15m = m at *
  generalize w15b = b at *
  generalize w15c = c at *
  generalize w15d = d at *
  have HLL := Aside0.mk hll
  have HQ1 := Aside0.mk hl1
  have HDL := Aside0.mk hdl
  have HD6 := Aside0.mk hd6
  have t1 : ((l.length : Int) == 2) = true := by rw [hll]; rfl
  have t2 : ((m.length : Int) == 2) = true := by rw [hml]; rfl
  have t3 : ((d.free.length : Int) == 64) = true := by rw [hdl]; rfl
  clear hll hl1 hml hdl hd6
  go_enter Try.func44, Try.ntmps44
  go_wp2_with (first
    | (go_at_call 41; refine (HN.out _).mono ?_; rintro e W1 ⟨v_, rfl, ho_, hb_⟩; obtain ⟨hl_, vf_, va_, rfl, hf_, ha_⟩ := ho_; obtain ⟨Af1, cf1, rfl⟩ := Kd.R_slice hf_; obtain ⟨Aa1, ca1, rfl⟩ := Kd.R_slice ha_; have HL1 := Aside0.mk hl_; have HB_1 := Aside0.mk (HB_0.out.trans (hb_.mono HB_0.out.size)); have HF1_1 := Aside0.mk (hf_); have HG1_1 := Aside0.mk (ha_); clear hl_ hf_ ha_ hb_ HB_0)
    | (refine step_allocN (some 1) rfl rfl 57 rfl zeroL zero57 ?_; intro gX W2 hg_ hx_ hb_; have GE_gX := Aside0.mk (show w.heap.size ≤ gX by have := HB_1.out.size; omega); have HB_2 := Aside0.mk (HB_1.out.trans (hb_.mono HB_1.out.size)); have HF1_2 := Aside0.mk (Kd.R_below HF1_1.out hb_); have HG1_2 := Aside0.mk (Kd.R_below HG1_1.out hb_); have HX_2 := Aside0.mk (hx_); clear hg_ hx_ hb_ HB_1 HF1_1 HG1_1)
    | (refine step_store rfl 57 (.tmp 1) (.tmp 11) rfl gX (bkL b.addr b.aff b.slots (.slice Af1 b.free.length cf1) (.slice Aa1 b.attrs.length ca1)) rfl rfl 57 _ HX_2.out 68 (by kernel_rfl) (bkL_length _ _ _ _ _ HL1.out) rfl (bkL_one _ _ _ _ _ rfl rfl) ?_; intro W3 hx_ hg_; have HB_3 := Aside0.mk (HB_2.out.grown hg_ HB_2.out.size (by intro k hk; cases hk; exact GE_gX.out)); have HF1_3 := Aside0.mk (R_box_grown HF1_2.out HX_2.out (by decide) hg_); have HG1_3 := Aside0.mk (R_box_grown HG1_2.out HX_2.out (by decide) hg_); have HX_3 := Aside0.mk (hx_); clear hx_ hg_ HB_2 HF1_2 HG1_2 HX_2)
    | ((with_reducible refine gate_dst (N := 14) rfl ?_); refine step_load rfl 57 (.tmp 1) rfl gX rfl _ _ _ HX_3.out Try.underlying57 rfl 68 (by kernel_rfl) (bkL_length _ _ _ _ _ HL1.out) ?_)
    | (refine step_build rfl 85 #[(0, .const (.string ⟨#[104]⟩)), (1, .const (.string ⟨#[110]⟩))] rfl [.string ⟨#[104]⟩, .string ⟨#[110]⟩] (by kernel_rfl) ?_)
    | (go_at_call 49; refine (HA.out _ _ ⟨_, _, _, _, rfl, ⟨HL1.out, (Kd.R_reads' HF1_3.out).2.2, (Kd.R_reads' HF1_3.out).2.1, (Kd.R_reads' HG1_3.out).2.2, (Kd.R_reads' HG1_3.out).2.1⟩⟩).mono ?_; rintro e W4 ⟨v_, vq_, rfl, ho_, hq_, hb_⟩; obtain ⟨hl_, vf_, va_, rfl, hf_, ha_⟩ := ho_; obtain ⟨Af2, cf2, rfl⟩ := Kd.R_slice hf_; obtain ⟨Aa2, ca2, rfl⟩ := Kd.R_slice ha_; have HL2 := Aside0.mk hl_; obtain ⟨Aq2, cq2, rfl⟩ := Kd.R_slice hq_; have HB_4 := Aside0.mk (HB_3.out.trans (hb_.mono HB_3.out.size)); have HF1_4 := Aside0.mk (Kd.R_below HF1_3.out hb_); have HG1_4 := Aside0.mk (Kd.R_below HG1_3.out hb_); have HX_4 := Aside0.mk (HX_3.out.below hb_); have HF2_4 := Aside0.mk (hf_); have HG2_4 := Aside0.mk (ha_); have HO2_4 := Aside0.mk (hq_); clear hl_ hf_ ha_ hq_ hb_ HB_3 HF1_3 HG1_3 HX_3)
    | (refine step_allocN (some 3) rfl rfl 57 rfl zeroL zero57 ?_; intro gY W5 hg_ hx_ hb_; have GE_gY := Aside0.mk (show w.heap.size ≤ gY by have := HB_4.out.size; omega); have NE_gX_gY := Aside0.mk (show gX ≠ gY by have := HX_4.out.lt; omega); have HB_5 := Aside0.mk (HB_4.out.trans (hb_.mono HB_4.out.size)); have HF1_5 := Aside0.mk (Kd.R_below HF1_4.out hb_); have HG1_5 := Aside0.mk (Kd.R_below HG1_4.out hb_); have HX_5 := Aside0.mk (HX_4.out.below hb_); have HF2_5 := Aside0.mk (Kd.R_below HF2_4.out hb_); have HG2_5 := Aside0.mk (Kd.R_below HG2_4.out hb_); have HO2_5 := Aside0.mk (Kd.R_below HO2_4.out hb_); have HY_5 := Aside0.mk (hx_); clear hg_ hx_ hb_ HB_4 HF1_4 HG1_4 HX_4 HF2_4 HG2_4 HO2_4)
    | (refine step_store rfl 57 (.tmp 3) (.tmp 17) rfl gY (bkL c.addr c.aff c.slots (.slice Af2 c.free.length cf2) (.slice Aa2 c.attrs.length ca2)) rfl rfl 57 _ HY_5.out 68 (by kernel_rfl) (bkL_length _ _ _ _ _ HL2.out) rfl (bkL_one _ _ _ _ _ rfl rfl) ?_; intro W6 hx_ hg_; have HB_6 := Aside0.mk (HB_5.out.grown hg_ HB_5.out.size (by intro k hk; cases hk; exact GE_gY.out)); have HF1_6 := Aside0.mk (R_box_grown HF1_5.out HY_5.out (by decide) hg_); have HG1_6 := Aside0.mk (R_box_grown HG1_5.out HY_5.out (by decide) hg_); have HX_6 := Aside0.mk (HX_5.out.grown hg_ (fun e => NE_gX_gY.out (Option.some.inj e))); have HF2_6 := Aside0.mk (R_box_grown HF2_5.out HY_5.out (by decide) hg_); have HG2_6 := Aside0.mk (R_box_grown HG2_5.out HY_5.out (by decide) hg_); have HO2_6 := Aside0.mk (R_box_grown HO2_5.out HY_5.out (by decide) hg_); have HY_6 := Aside0.mk (hx_); clear hx_ hg_ HB_5 HF1_5 HG1_5 HX_5 HF2_5 HG2_5 HO2_5 HY_5)
    | ((with_reducible refine gate_dst (N := 21) rfl ?_); refine step_load rfl 57 (.tmp 3) rfl gY rfl _ _ _ HY_6.out Try.underlying57 rfl 68 (by kernel_rfl) (bkL_length _ _ _ _ _ HL2.out) ?_)
    | (go_at_call 52; refine (HRL.out _ _ _ _ ⟨_, _, _, _, rfl, ⟨HL2.out, (Kd.R_reads' HF2_6.out).2.2, (Kd.R_reads' HF2_6.out).2.1, (Kd.R_reads' HG2_6.out).2.2, (Kd.R_reads' HG2_6.out).2.1⟩⟩ (Kd.R_reads' HO2_6.out).2.2).mono ?_; rintro e W7 ⟨v_, vq_, rfl, ho_, hq_, hb_⟩; obtain ⟨hl_, vf_, va_, rfl, hf_, ha_⟩ := ho_; obtain ⟨Af3, cf3, rfl⟩ := Kd.R_slice hf_; obtain ⟨Aa3, ca3, rfl⟩ := Kd.R_slice ha_; have HL3 := Aside0.mk hl_; obtain ⟨Aq3, cq3, rfl⟩ := Kd.R_slice hq_; have HB_7 := Aside0.mk (HB_6.out.trans (hb_.mono HB_6.out.size)); have HF1_7 := Aside0.mk (Kd.R_below HF1_6.out hb_); have HG1_7 := Aside0.mk (Kd.R_below HG1_6.out hb_); have HX_7 := Aside0.mk (HX_6.out.below hb_); have HF2_7 := Aside0.mk (Kd.R_below HF2_6.out hb_); have HG2_7 := Aside0.mk (Kd.R_below HG2_6.out hb_); have HO2_7 := Aside0.mk (Kd.R_below HO2_6.out hb_); have HY_7 := Aside0.mk (HY_6.out.below hb_); have HF3_7 := Aside0.mk (hf_); have HG3_7 := Aside0.mk (ha_); have HO3_7 := Aside0.mk (hq_); clear hl_ hf_ ha_ hq_ hb_ HB_6 HF1_6 HG1_6 HX_6 HF2_6 HG2_6 HO2_6 HY_6)
    | (refine step_allocN (some 6) rfl rfl 57 rfl zeroL zero57 ?_; intro gZ W8 hg_ hx_ hb_; have GE_gZ := Aside0.mk (show w.heap.size ≤ gZ by have := HB_7.out.size; omega); have NE_gX_gZ := Aside0.mk (show gX ≠ gZ by have := HX_7.out.lt; omega); have NE_gY_gZ := Aside0.mk (show gY ≠ gZ by have := HY_7.out.lt; omega); have HB_8 := Aside0.mk (HB_7.out.trans (hb_.mono HB_7.out.size)); have HF1_8 := Aside0.mk (Kd.R_below HF1_7.out hb_); have HG1_8 := Aside0.mk (Kd.R_below HG1_7.out hb_); have HX_8 := Aside0.mk (HX_7.out.below hb_); have HF2_8 := Aside0.mk (Kd.R_below HF2_7.out hb_); have HG2_8 := Aside0.mk (Kd.R_below HG2_7.out hb_); have HO2_8 := Aside0.mk (Kd.R_below HO2_7.out hb_); have HY_8 := Aside0.mk (HY_7.out.below hb_); have HF3_8 := Aside0.mk (Kd.R_below HF3_7.out hb_); have HG3_8 := Aside0.mk (Kd.R_below HG3_7.out hb_); have HO3_8 := Aside0.mk (Kd.R_below HO3_7.out hb_); have HZ_8 := Aside0.mk (hx_); clear hg_ hx_ hb_ HB_7 HF1_7 HG1_7 HX_7 HF2_7 HG2_7 HO2_7 HY_7 HF3_7 HG3_7 HO3_7)
    | (refine step_store rfl 57 (.tmp 6) (.tmp 24) rfl gZ (bkL d.addr d.aff d.slots (.slice Af3 d.free.length cf3) (.slice Aa3 d.attrs.length ca3)) rfl rfl 57 _ HZ_8.out 68 (by kernel_rfl) (bkL_length _ _ _ _ _ HL3.out) rfl (bkL_one _ _ _ _ _ rfl rfl) ?_; intro W9 hx_ hg_; have HB_9 := Aside0.mk (HB_8.out.grown hg_ HB_8.out.size (by intro k hk; cases hk; exact GE_gZ.out)); have HF1_9 := Aside0.mk (R_box_grown HF1_8.out HZ_8.out (by decide) hg_); have HG1_9 := Aside0.mk (R_box_grown HG1_8.out HZ_8.out (by decide) hg_); have HX_9 := Aside0.mk (HX_8.out.grown hg_ (fun e => NE_gX_gZ.out (Option.some.inj e))); have HF2_9 := Aside0.mk (R_box_grown HF2_8.out HZ_8.out (by decide) hg_); have HG2_9 := Aside0.mk (R_box_grown HG2_8.out HZ_8.out (by decide) hg_); have HO2_9 := Aside0.mk (R_box_grown HO2_8.out HZ_8.out (by decide) hg_); have HY_9 := Aside0.mk (HY_8.out.grown hg_ (fun e => NE_gY_gZ.out (Option.some.inj e))); have HF3_9 := Aside0.mk (R_box_grown HF3_8.out HZ_8.out (by decide) hg_); have HG3_9 := Aside0.mk (R_box_grown HG3_8.out HZ_8.out (by decide) hg_); have HO3_9 := Aside0.mk (R_box_grown HO3_8.out HZ_8.out (by decide) hg_); have HZ_9 := Aside0.mk (hx_); obtain ⟨g2, rfl⟩ := R_head HO2_9.out (by have h_ := HLL.out; omega); obtain ⟨g3, rfl⟩ := R_head HF3_9.out (by have h_ := HDL.out; omega); have hx2_ := (R_cellI HO2_9.out 1 (by have h_ := HLL.out; omega)).1; have hx3_ := (R_cellI HF3_9.out 63 (by have h_ := HDL.out; omega)).1; rw [show ((1 : Nat) : Int) = 1 from rfl, HQ1.out] at hx2_; rw [show ((63 : Nat) : Int) = 63 from rfl, HD6.out] at hx3_; have hc66_ := HZ_9.out.cell 66 _ (bkL_66 _ _ _ _ _ HL3.out); have pl_ : ((1 : Int) < (l.length : Int)) = True := eq_true (by have h_ := HLL.out; omega); have pd_ : ((63 : Int) < (d.free.length : Int)) = True := eq_true (by have h_ := HDL.out; omega); clear hx_ hg_ HB_8 HF1_8 HG1_8 HX_8 HF2_8 HG2_8 HO2_8 HY_8 HF3_8 HG3_8 HO3_8 HZ_8)
    | ((with_reducible refine gate_dst (N := 67) rfl ?_); refine gate_guard (by rfl) ?_; refine step_load rfl 57 (.tmp 6) rfl gZ rfl _ _ _ HZ_9.out Try.underlying57 rfl 68 (by kernel_rfl) (bkL_length _ _ _ _ _ HL3.out) ?_)
    | (go_at_call 57; refine (HE.out _ _ ⟨_, _, _, _, rfl, ⟨HL3.out, (Kd.R_reads' HF3_9.out).2.2, (Kd.R_reads' HF3_9.out).2.1, (Kd.R_reads' HG3_9.out).2.2, (Kd.R_reads' HG3_9.out).2.1⟩⟩).mono ?_; rintro e W10 ⟨rfl, hb_⟩; have HB_10 := Aside0.mk (HB_9.out.trans (hb_.mono HB_9.out.size)); have HF1_10 := Aside0.mk (Kd.R_below HF1_9.out hb_); have HG1_10 := Aside0.mk (Kd.R_below HG1_9.out hb_); have HX_10 := Aside0.mk (HX_9.out.below hb_); have HF2_10 := Aside0.mk (Kd.R_below HF2_9.out hb_); have HG2_10 := Aside0.mk (Kd.R_below HG2_9.out hb_); have HO2_10 := Aside0.mk (Kd.R_below HO2_9.out hb_); have HY_10 := Aside0.mk (HY_9.out.below hb_); have HF3_10 := Aside0.mk (Kd.R_below HF3_9.out hb_); have HG3_10 := Aside0.mk (Kd.R_below HG3_9.out hb_); have HO3_10 := Aside0.mk (Kd.R_below HO3_9.out hb_); have HZ_10 := Aside0.mk (HZ_9.out.below hb_); clear hb_ HB_9 HF1_9 HG1_9 HX_9 HF2_9 HG2_9 HO2_9 HY_9 HF3_9 HG3_9 HO3_9 HZ_9))
  go_ret
  exact ⟨by simp, HB_10.out⟩
end Go.Proofs.Ytemhalnhbgkbcaa.V
end

-- BUnder
section
/- block.under, as ReleaseHandle, ReleaseNode and Given call it. -/
namespace Go.Proofs.Ytemhalnhbgkbcaa.V
open Go.RowKit Go.Proofs.YtemhalnhbgkbcaaW.PrintWords Go.Proofs.YtemhalnhbgkbcaaW.PrintLast Go.Proofs.YtemhalnhbgkbcaaW.PrintMore
set_option linter.unusedVariables false
set_option linter.unusedSimpArgs false

set_option maxHeartbeats 8000000 in
set_option maxRecDepth 100000 in
theorem cloAny (a : At) (w : World) : Calls Try.prog 99 #[.agg #[.string a.f0, .string a.f1]] w fun e w' => e = .returned (.bool true) ∧ Below w.heap.size w w' := by
  go_enter Try.func99, Try.ntmps99
  go_wp2_with (refine step_box rfl 85 (.tmp 0) rfl [.string a.f0, .string a.f1] rfl ?_; intro g1 W1 hg_ hx_ hb_; have HB := Aside0.mk hb_; clear hg_ hx_ hb_)
  go_ret
  exact ⟨rfl, HB.out⟩
set_option maxHeartbeats 8000000 in
set_option maxRecDepth 100000 in
theorem underAny (b : Bk) (hk : BkOk b) (hp : RightP b) (v : Value) (w : World) (h : BkV w v b) :
    Calls Try.prog 96 #[v, .func (.func 99) #[] #[]] w fun e w' => ∃ vo, e = .returned vo ∧ Kd.R (Kd.int .u32) 46 w' w.heap.size (fun _ => True) vo (underI b (fun _ => true) 64) ∧ Below w.heap.size w w' := by
  obtain ⟨A, c, A', c', rfl, hr⟩ := h
  have HL := Aside0.mk hr.l64
  have HR := Aside0.mk hr
  have HK := Aside0.mk hk
  have HP := Aside0.mk hp
  have HB_0 := Aside0.mk (Below.refl w.heap.size w)
  have HLN := Aside0.mk (show (Try.prog.info? 47).map (·.size) = some (b.slots.map (Value.int .u8)).length by rw [List.length_map, hr.l64]; kernel_rfl)
  have ha0 : 0 ≤ b.addr := hk.a0
  have ha1 : b.addr + 64 ≤ 4294967296 := by
    have h1 := hp.first
    have h2 := hk.a1
    unfold firstI at h1
    omega
  clear hr hk hp
  go_enter Try.func96, Try.ntmps96
  go_wp2_with (first
    | (refine step_box rfl 57 (.tmp 0) rfl _ rfl ?_; intro gX W1 hg_ hx_ hb_; have GE_gX := Aside0.mk (show w.heap.size ≤ gX by have := HB_0.out.size; omega); have HB_1 := Aside0.mk (HB_0.out.trans (hb_.mono HB_0.out.size)); have HX_1 := Aside0.mk (hx_); clear hg_ hx_ hb_ HB_0)
    | (refine step_loadPart rfl 47 (.tmp 8) rfl gX 2 rfl 57 _ (b.slots.map (Value.int .u8)) (.array 64 5) HX_1.out (bkL_part _ _ _ _ _ HL.out) Try.underlying47 rfl HLN.out ?_))
  go_loopw [5, 6, 7, 10] (fun q _ _ i W => ∃ k : Nat, k ≤ 64 ∧ i = .int .i64 k ∧ Aside0 (Box W gX (bkL b.addr b.aff b.slots (.slice A b.free.length c) (.slice A' b.attrs.length c')) 57) ∧ Aside0 (Kd.R (Kd.int .u32) 46 W w.heap.size (fun _ => True) q (underI b (fun _ => true) k)) ∧ Aside0 (Below w.heap.size w W)) (fun _ _ _ i _ => 64 - (intOf i).toNat)
  case atStart => exact ⟨0, by omega, rfl, HX_1, ⟨Kd.R_nil _ _ _ _ _⟩, HB_1⟩
  case round =>
    clear HB_1 HX_1
    obtain ⟨k, hk, rfl, HX_0, HO_0, HB_0⟩ := hrel
    obtain ⟨W, rfl⟩ : ∃ W : World, W = wr := ⟨_, rfl⟩
    have hul := underI_length b (fun _ => true) k
    by_cases hk2 : k < 64
    · have hkb : decide ((k : Int) < 64) = true := by simp; omega
      have hkl : k < b.slots.length := by have := HL.out; omega
      have hus := underI_succ b (fun _ => true) k
      obtain ⟨oo, hoo⟩ : ∃ oo, oo = underI b (fun _ => true) k := ⟨_, rfl⟩
      rw [← hoo] at HO_0 hus hul
      have HUL := Aside0.mk (show oo.length ≤ 100 by omega)
      have hms := HK.out.s8 _ (List.getElem_mem hkl)
      have hml := HP.out.sa _ (List.getElem_mem hkl)
      have hna := HP.out.na
      have hge : b.slots.getD k 0 = b.slots[k] := by simp [List.getD, hkl]
      have hix := fun w => index47 b.slots HL.out k hk2 w
      rw [hge] at hix hus
      by_cases hm0 : b.slots[k] = 0
      · rw [hm0] at hix hus
        have HUS := Aside0.mk (show underI b (fun _ => true) (k + 1) = oo by rw [hus]; simp)
        clear hus hms hml hge hm0 hoo hul
        go_wp2_with fail
        go_roundw
        case rel => exact ⟨k + 1, by omega, by go_num, HX_0, ⟨by rw [HUS.out]; exact HO_0.out⟩, HB_0⟩
        case measure => simp [intOf]; omega
      · obtain ⟨m, hm⟩ : ∃ m : Nat, b.slots[k] = (m : Int) + 1 := ⟨(b.slots[k]).toNat - 1, by omega⟩
        have hheld : heldAt b k = atN b.attrs m := by
          unfold heldAt
          rw [hge, hm]
          congr 1
          omega
        rw [hm] at hix hus hml hms
        try rw [hheld] at hus
        have ht : (((m : Int) + 1) != 0) = true := by simp; omega
        have hma : m < b.attrs.length := by omega
        obtain ⟨ad, eA, hx0, hx1⟩ := at_T85 (HR.out.below HB_0.out).ar m (by omega) (by omega)
        cases eA
        rw [Int.toNat_natCast] at hx0 hx1
        have p1 : ((m : Int) < (b.attrs.length : Int)) = True := eq_true (by omega)
        obtain ⟨a, ha⟩ : ∃ a : At, atN b.attrs m = a := ⟨_, rfl⟩
        have ha' : rd_T85 b.attrs (m : Int) = a := ha
        rw [ha'] at hx0 hx1
        try rw [ha] at hus
        rw [ht, Bool.true_and] at hus
        have h67 := HX_0.out.cell 67 _ (bkL_67 _ _ _ _ _ HL.out)
        obtain ⟨Ao, co, rfl⟩ := Kd.R_slice HO_0.out
        · skip
          obtain ⟨o1, ho1⟩ : ∃ o1, o1 = oo ++ [b.addr + (k : Int)] := ⟨_, rfl⟩
          have HO1 := Aside0.mk ho1
          have HUS := Aside0.mk (show underI b (fun _ => true) (k + 1) = o1 by rw [hus, ho1]; simp)
          clear hus hms hml hge hm0 hoo hul hm hheld ha ha' ho1
          go_wp2_with (first
            | (go_at_call 99; refine (cloAny a _).mono ?_; rintro e W1 ⟨rfl, hb_⟩; have HX_1 := Aside0.mk (HX_0.out.below hb_); have HO_1 := Aside0.mk (Kd.R_below HO_0.out hb_); have HB_1 := Aside0.mk (HB_0.out.trans (hb_.mono HB_0.out.size)); have hc0_ := HX_1.out.cell 0 _ rfl; clear hb_ HX_0 HO_0 HB_0 h67)
            | ((with_reducible refine gate_builtin (b := .append) (xs := #[.tmp 26, .tmp 32]) rfl ?_); at_builtin; refine Kd.R_append (Kd.int .u32) (w0 := w) w.heap.size rfl (.tmp 26) (.tmp 32) 77 46 (.int .u32 0) 4 rfl Try.underlying77 info_u32 rfl (by decide) (by omega) _ oo (b.addr + (k : Int)) [.int .u32 (b.addr + (k : Int))] (fun _ => True) (fun _ => False) rfl rfl rfl (fun _ hk => hk.elim) (fun _ _ => trivial) HO_1.out HB_1.out HB_1.out.size (by have := HUL.out; omega) ?_; intro v_ W2 ho_ hb_ hg_ hat_; rw [← HO1.out] at ho_; have HX_2 := Aside0.mk (HX_1.out.grown hg_ (HX_1.out.ne_row HO_1.out (by decide))); have HO_2 := Aside0.mk (ho_); have HB_2 := Aside0.mk (hb_); obtain ⟨AO, cO, rfl⟩ := Kd.R_slice ho_; clear ho_ hb_ hg_ hat_ HX_1 HO_1 HB_1 hc0_))
          go_roundw
          case rel => exact ⟨k + 1, by omega, by go_num, HX_2, ⟨by rw [HUS.out]; exact HO_2.out⟩, HB_2⟩
          case measure => simp [intOf]; omega
    · obtain rfl : k = 64 := by omega
      rw [show ((64 : Nat) : Int) = (64 : Int) from rfl]
      have hkb : decide ((64 : Int) < 64) = false := by decide
      go_wp2
      go_ret
      exact ⟨_, rfl, HO_0.out, HB_0.out⟩
end Go.Proofs.Ytemhalnhbgkbcaa.V
end

-- BSkip
section
/- A whole struct stored in a region that draws its order. -/
namespace Go.Proofs.Ytemhalnhbgkbcaa.V
open Go.RowKit Go.Proofs.YtemhalnhbgkbcaaW.PrintWords Go.Proofs.YtemhalnhbgkbcaaW.PrintLast Go.Proofs.YtemhalnhbgkbcaaW.PrintMore
set_option linter.unusedVariables false

theorem skip_store {P : Program} {ops : Array Oper} {Q : Exit → Act → World → Prop} {oi : Oper} {a : Act} {w : World} {K : Act → World → Prop} (hw : Region.wanted oi (yielded ops a.tmps) = true) (hN : oi.dst = none) (ty : TypeId) (x y : Operand) (ho : oi.op = .store ty x y)
    (g : Nat) (cs : List Value) (hx : a.eval x = .pointer (some ⟨g, 0, none⟩)) (hy : a.eval y = .agg cs.toArray)
    (t : Nat) (old : List Value) (hb : Box w g old t) (n : Nat) (hi : (P.info? ty).map (·.size) = some n) (hn : cs.length = n) (hold : old.length = n) (h1 : ∀ v ∈ cs, v.oneCell' = true)
    (h : ∀ W1, Box W1 g cs t → w.grownBy W1 (some g) → K a W1) : if Region.wanted oi (yielded ops a.tmps) = true then Oper.wp P oi a w K Q else K (a.put none undef) w := by
  have hrun : (execOp a.eval oi).run P w = .ok .skip (w.setRow g cs.toArray) := by
    unfold execOp
    simp only [ho, hx, hy, Instr.storeAt, Instr.sureAddr, Sem.run_bind, Sem.run_pure, Result.andThen_ok, run_storeVar_row w g t ty old.toArray cs.toArray hb (by rw [hi]; simp [hn]) (by simp; omega) (by rw [Array.all_eq_true_iff_forall_mem]; intro v hv; exact h1 v (by simpa using hv))]
  exact skip_ hw hN hrun (h _ (setRow_heap w g old.toArray cs.toArray t (0, 0) hb) (setRow_grown w g _))
/-- A variable made in a region that draws its order. -/
theorem raw_alloc {P : Program} {ops : Array Oper} {Q : Exit → Act → World → Prop} {oi : Oper} {a : Act} {w : World} {K : Act → World → Prop} (hw : Region.wanted oi (yielded ops a.tmps) = true) (ty : TypeId) (ho : oi.op = .alloc ty) (cs : List Value) (hz : ∀ w, (zeroValue ty).run P w = .ok (.agg cs.toArray) w)
    (h : ∀ g W1, w.heap.size ≤ g → Box W1 g cs ty → Below w.heap.size w W1 → K (a.put oi.dst (.pointer (some ⟨g, 0, none⟩))) W1) : if Region.wanted oi (yielded ops a.tmps) = true then Oper.wp P oi a w K Q else K (a.put oi.dst undef) w := by
  have := h w.heap.size (w.alloc (.cells cs.toArray ty)) (Nat.le_refl _) (heap_alloc_new w _) (below_alloc (Below.refl _ _) _)
  rw [if_pos hw]
  unfold Oper.wp execOp
  simp only [ho, Instr.alloc, newVar, newRow, newObj, Value.cells, Sem.run_bind, hz, Result.andThen_ok]
  exact this
end Go.Proofs.Ytemhalnhbgkbcaa.V
end

-- BOfG
section
/- block.Given, block.Of. -/
namespace Go.Proofs.Ytemhalnhbgkbcaa.V
open Go.RowKit Go.Proofs.YtemhalnhbgkbcaaW.PrintWords Go.Proofs.YtemhalnhbgkbcaaW.PrintLast Go.Proofs.YtemhalnhbgkbcaaW.PrintMore
set_option linter.unusedVariables false
set_option linter.unusedSimpArgs false

set_option maxHeartbeats 16000000 in
set_option maxRecDepth 100000 in
theorem given_any (b : Bk) (hk : BkOk b) (v : Value) (w : World) (h : BkV w v b) :
    Calls Try.prog 59 #[v] w fun e w' => ∃ vo, e = .returned vo ∧ Kd.R (Kd.int .u32) 46 w' w.heap.size (fun _ => True) vo (if rightB b = true then underI b (fun _ => true) 64 else []) ∧ Below w.heap.size w w' := by
  obtain ⟨A, c, A', c', rfl, hr⟩ := h
  have HL := Aside0.mk hr.l64
  have HR := Aside0.mk hr
  have HK := Aside0.mk hk
  have HB_0 := Aside0.mk (Below.refl w.heap.size w)
  cases hrt : rightB b with
  | false =>
    have HRT := Aside0.mk hrt
    clear hr hk hrt
    go_enter Try.func59, Try.ntmps59
    go_wp2_with (first
      | (refine step_box rfl 57 (.tmp 0) rfl _ rfl ?_; intro gX W1 hg_ hx_ hb_; have GE_gX := Aside0.mk (show w.heap.size ≤ gX by have := HB_0.out.size; omega); have HB_1 := Aside0.mk (HB_0.out.trans (hb_.mono HB_0.out.size)); have HX_1 := Aside0.mk (hx_); clear hg_ hx_ hb_ HB_0)
      | ((with_reducible refine gate_dst (N := 3) rfl ?_); refine step_load rfl 57 (.tmp 1) rfl gX rfl _ _ _ HX_1.out Try.underlying57 rfl 68 (by kernel_rfl) (bkL_length _ _ _ _ _ HL.out) ?_)
      | (go_at_call 48; refine (right_any' b HK.out _ _ ⟨A, c, A', c', rfl, HR.out.below HB_1.out⟩).mono ?_; rintro e W2 ⟨rfl, hb_⟩; rw [HRT.out]; have HB_2 := Aside0.mk (HB_1.out.trans (hb_.mono HB_1.out.size)); have HX_2 := Aside0.mk (HX_1.out.below hb_); clear hb_ HB_1 HX_1))
    go_ret
    exact ⟨_, rfl, Kd.R_nil _ _ _ _ _, HB_2.out⟩
  | true =>
    have HRT := Aside0.mk hrt
    have HP := Aside0.mk (right_p hrt)
    clear hr hk hrt
    go_enter Try.func59, Try.ntmps59
    go_wp2_with (first
      | (refine step_box rfl 57 (.tmp 0) rfl _ rfl ?_; intro gX W1 hg_ hx_ hb_; have GE_gX := Aside0.mk (show w.heap.size ≤ gX by have := HB_0.out.size; omega); have HB_1 := Aside0.mk (HB_0.out.trans (hb_.mono HB_0.out.size)); have HX_1 := Aside0.mk (hx_); clear hg_ hx_ hb_ HB_0)
      | ((with_reducible refine gate_dst (N := 3) rfl ?_); refine step_load rfl 57 (.tmp 1) rfl gX rfl _ _ _ HX_1.out Try.underlying57 rfl 68 (by kernel_rfl) (bkL_length _ _ _ _ _ HL.out) ?_)
      | (go_at_call 48; refine (right_any' b HK.out _ _ ⟨A, c, A', c', rfl, HR.out.below HB_1.out⟩).mono ?_; rintro e W2 ⟨rfl, hb_⟩; rw [HRT.out]; have HB_2 := Aside0.mk (HB_1.out.trans (hb_.mono HB_1.out.size)); have HX_2 := Aside0.mk (HX_1.out.below hb_); clear hb_ HB_1 HX_1)
      | ((with_reducible refine gate_dst (N := 6) rfl ?_); refine step_load rfl 57 (.tmp 1) rfl gX rfl _ _ _ HX_2.out Try.underlying57 rfl 68 (by kernel_rfl) (bkL_length _ _ _ _ _ HL.out) ?_)
      | (go_at_call 96; refine (underAny b HK.out HP.out _ _ ⟨A, c, A', c', rfl, HR.out.below HB_2.out⟩).mono ?_; rintro e W3 ⟨vo, rfl, ho_, hb_⟩; have HB_3 := Aside0.mk (HB_2.out.trans (hb_.mono HB_2.out.size)); have HX_3 := Aside0.mk (HX_2.out.below hb_); have HU_3 := Aside0.mk (Kd.R_lower ho_ HB_2.out.size); clear hb_ HB_2 HX_2))
    go_ret
    exact ⟨_, rfl, HU_3.out, HB_3.out⟩
set_option maxHeartbeats 16000000 in
set_option maxRecDepth 100000 in
theorem of_far (b : Bk) (hk : BkOk b) (x q : Int) (hpl : ∀ (v : Value) (w : World), BkV w v b → Calls Try.prog 92 #[v, .int .u32 x] w fun e w' => e = .returned (.tuple #[.int .i64 q, .bool false]) ∧ Below w.heap.size w w') (v : Value) (w : World) (h : BkV w v b) :
    Calls Try.prog 56 #[v, .int .u32 x] w fun e w' => e = .returned (.tuple #[.agg #[.string ⟨#[]⟩, .string ⟨#[]⟩], .bool false]) ∧ Below w.heap.size w w' := by
  obtain ⟨A, c, A', c', rfl, hr⟩ := h
  have HL := Aside0.mk hr.l64
  have HR := Aside0.mk hr
  have HK := Aside0.mk hk
  have HB_0 := Aside0.mk (Below.refl w.heap.size w)
  have HPL := Aside0.mk hpl
  clear hr hk hpl
  go_enter Try.func56, Try.ntmps56
  go_wp2_with (first
    | (refine step_box rfl 57 (.tmp 0) rfl _ rfl ?_; intro gX W1 hg_ hx_ hb_; have GE_gX := Aside0.mk (show w.heap.size ≤ gX by have := HB_0.out.size; omega); have HB_1 := Aside0.mk (HB_0.out.trans (hb_.mono HB_0.out.size)); have HX_1 := Aside0.mk (hx_); clear hg_ hx_ hb_ HB_0)
    | (refine step_allocN (some 4) rfl rfl 85 rfl [.string ⟨#[]⟩, .string ⟨#[]⟩] (fun _ => by kernel_rfl) ?_; intro gZ W2 hg_ hx_ hb_; have GE_gZ := Aside0.mk (show w.heap.size ≤ gZ by have := HB_1.out.size; omega); have NE_gX_gZ := Aside0.mk (show gX ≠ gZ by have := HX_1.out.lt; omega); have HB_2 := Aside0.mk (HB_1.out.trans (hb_.mono HB_1.out.size)); have HX_2 := Aside0.mk (HX_1.out.below hb_); have HZ_2 := Aside0.mk (hx_); clear hg_ hx_ hb_ HB_1 HX_1)
    | ((with_reducible refine gate_dst (N := 9) rfl ?_); refine step_load rfl 57 (.tmp 2) rfl gX rfl _ _ _ HX_2.out Try.underlying57 rfl 68 (by kernel_rfl) (bkL_length _ _ _ _ _ HL.out) ?_)
    | (go_at_call 92; refine (HPL.out _ _ ⟨A, c, A', c', rfl, HR.out.below HB_2.out⟩).mono ?_; rintro e W3 ⟨rfl, hb_⟩; have HB_3 := Aside0.mk (HB_2.out.trans (hb_.mono HB_2.out.size)); have HX_3 := Aside0.mk (HX_2.out.below hb_); have HZ_3 := Aside0.mk (HZ_2.out.below hb_); clear hb_ HB_2 HX_2 HZ_2)
    | (refine step_build rfl 85 #[] rfl [.string ⟨#[]⟩, .string ⟨#[]⟩] (by kernel_rfl) ?_)
    | (refine step_store rfl 85 (.tmp 4) (.tmp 28) rfl gZ [.string ⟨#[]⟩, .string ⟨#[]⟩] rfl rfl 85 _ HZ_3.out 2 (by kernel_rfl) rfl rfl (atL_one ⟨⟨#[]⟩, ⟨#[]⟩⟩) ?_; intro W4 hx_ hg_; have HB_4 := Aside0.mk (HB_3.out.grown hg_ HB_3.out.size (by intro k hk; cases hk; exact GE_gZ.out)); have HX_4 := Aside0.mk (HX_3.out.grown hg_ (fun e => (HX_3.out.ne HZ_3.out (by decide)) (Option.some.inj e))); have HZ_4 := Aside0.mk (hx_); clear hx_ hg_ HB_3 HX_3 HZ_3))
  exact bodyPost_ret (results_ct rfl _ _ gZ 85 _ (0, 0) _ rfl HZ_4.out Try.underlying85 rfl (by kernel_rfl)) rfl ⟨rfl, HB_4.out⟩
set_option maxHeartbeats 16000000 in
set_option maxRecDepth 100000 in
theorem of_wrong (b : Bk) (hk : BkOk b) (x : Int) (q : Int) (pb : Bool) (hpl : ∀ (v : Value) (w : World), BkV w v b → Calls Try.prog 92 #[v, .int .u32 x] w fun e w' => e = .returned (.tuple #[.int .i64 q, .bool true]) ∧ Below w.heap.size w w') (hrt : rightB b = false) (v : Value) (w : World) (h : BkV w v b) :
    Calls Try.prog 56 #[v, .int .u32 x] w fun e w' => e = .returned (.tuple #[.agg #[.string ⟨#[]⟩, .string ⟨#[]⟩], .bool false]) ∧ Below w.heap.size w w' := by
  obtain ⟨A, c, A', c', rfl, hr⟩ := h
  have HL := Aside0.mk hr.l64
  have HR := Aside0.mk hr
  have HK := Aside0.mk hk
  have HB_0 := Aside0.mk (Below.refl w.heap.size w)
  have HPL := Aside0.mk hpl
  have HRT := Aside0.mk hrt
  clear hr hk hpl hrt
  go_enter Try.func56, Try.ntmps56
  go_wp2_with (first
    | (refine step_box rfl 57 (.tmp 0) rfl _ rfl ?_; intro gX W1 hg_ hx_ hb_; have GE_gX := Aside0.mk (show w.heap.size ≤ gX by have := HB_0.out.size; omega); have HB_1 := Aside0.mk (HB_0.out.trans (hb_.mono HB_0.out.size)); have HX_1 := Aside0.mk (hx_); clear hg_ hx_ hb_ HB_0)
    | (refine step_allocN (some 4) rfl rfl 85 rfl [.string ⟨#[]⟩, .string ⟨#[]⟩] (fun _ => by kernel_rfl) ?_; intro gZ W2 hg_ hx_ hb_; have GE_gZ := Aside0.mk (show w.heap.size ≤ gZ by have := HB_1.out.size; omega); have NE_gX_gZ := Aside0.mk (show gX ≠ gZ by have := HX_1.out.lt; omega); have HB_2 := Aside0.mk (HB_1.out.trans (hb_.mono HB_1.out.size)); have HX_2 := Aside0.mk (HX_1.out.below hb_); have HZ_2 := Aside0.mk (hx_); clear hg_ hx_ hb_ HB_1 HX_1)
    | ((with_reducible refine gate_dst (N := 9) rfl ?_); refine step_load rfl 57 (.tmp 2) rfl gX rfl _ _ _ HX_2.out Try.underlying57 rfl 68 (by kernel_rfl) (bkL_length _ _ _ _ _ HL.out) ?_)
    | (go_at_call 92; refine (HPL.out _ _ ⟨A, c, A', c', rfl, HR.out.below HB_2.out⟩).mono ?_; rintro e W3 ⟨rfl, hb_⟩; have HB_3 := Aside0.mk (HB_2.out.trans (hb_.mono HB_2.out.size)); have HX_3 := Aside0.mk (HX_2.out.below hb_); have HZ_3 := Aside0.mk (HZ_2.out.below hb_); clear hb_ HB_2 HX_2 HZ_2)
    | ((with_reducible refine gate_dst (N := 17) rfl ?_); refine gate_guard (by rfl) ?_; refine step_load rfl 57 (.tmp 2) rfl gX rfl _ _ _ HX_3.out Try.underlying57 rfl 68 (by kernel_rfl) (bkL_length _ _ _ _ _ HL.out) ?_)
    | (go_at_call 48; refine (right_any' b HK.out _ _ ⟨A, c, A', c', rfl, HR.out.below HB_3.out⟩).mono ?_; rintro e W4 ⟨rfl, hb_⟩; rw [HRT.out]; have HB_4 := Aside0.mk (HB_3.out.trans (hb_.mono HB_3.out.size)); have HX_4 := Aside0.mk (HX_3.out.below hb_); have HZ_4 := Aside0.mk (HZ_3.out.below hb_); clear hb_ HB_3 HX_3 HZ_3)
    | (refine step_build rfl 85 #[] rfl [.string ⟨#[]⟩, .string ⟨#[]⟩] (by kernel_rfl) ?_)
    | (refine step_store rfl 85 (.tmp 4) (.tmp 28) rfl gZ [.string ⟨#[]⟩, .string ⟨#[]⟩] rfl rfl 85 _ HZ_4.out 2 (by kernel_rfl) rfl rfl (atL_one ⟨⟨#[]⟩, ⟨#[]⟩⟩) ?_; intro W5 hx_ hg_; have HB_5 := Aside0.mk (HB_4.out.grown hg_ HB_4.out.size (by intro k hk; cases hk; exact GE_gZ.out)); have HX_5 := Aside0.mk (HX_4.out.grown hg_ (fun e => (HX_4.out.ne HZ_4.out (by decide)) (Option.some.inj e))); have HZ_5 := Aside0.mk (hx_); clear hx_ hg_ HB_4 HX_4 HZ_4))
  exact bodyPost_ret (results_ct rfl _ _ gZ 85 _ (0, 0) _ rfl HZ_5.out Try.underlying85 rfl (by kernel_rfl)) rfl ⟨rfl, HB_5.out⟩
def of4.T4 : Bool × List (List Nat × List Nat) := (true, [([], []), ([0], [0]), ([], []), ([], []), ([3, 2], [2, 3]), ([4], [4]), ([5], [5]), ([1, 6], [1, 6]), ([7], [7]), ([8, 0, 1, 2, 3, 4, 5, 6, 7, 8], [8]), ([9, 0, 1, 2, 3, 4, 5, 6, 7, 8, 9], [])])
def of4.B4 : List Nat := [0, 1, 0, 0, 12, 28, 60, 127, 255, 511, 1023]
theorem of4.tab4 : rtab .any (opsOf Try.f56 4) = of4.T4 := by kernel_rfl
theorem of4.bits4 : waitsOk of4.T4.2 of4.B4 = true := by kernel_rfl
end Go.Proofs.Ytemhalnhbgkbcaa.V
end

-- BCount0
section
/- block.Count of a block that is not right; block.Of of one. -/
namespace Go.Proofs.Ytemhalnhbgkbcaa.V
open Go.RowKit Go.Proofs.YtemhalnhbgkbcaaW.PrintWords Go.Proofs.YtemhalnhbgkbcaaW.PrintLast Go.Proofs.YtemhalnhbgkbcaaW.PrintMore
set_option linter.unusedVariables false
set_option linter.unusedSimpArgs false

set_option maxHeartbeats 16000000 in
set_option maxRecDepth 100000 in
theorem count_no (b : Bk) (hk : BkOk b) (hrt : rightB b = false) (v : Value) (w : World) (h : BkV w v b) :
    Calls Try.prog 58 #[v] w fun e w' => ∃ g, e = .returned (.map (some g)) ∧ MapIs w' g [] ∧ Below w.heap.size w w' := by
  obtain ⟨A, c, A', c', rfl, hr⟩ := h
  have HL := Aside0.mk hr.l64
  have HR := Aside0.mk hr
  have HK := Aside0.mk hk
  have HRT := Aside0.mk hrt
  have HB_0 := Aside0.mk (Below.refl w.heap.size w)
  have hmm := @run_makeMap Try.prog
  clear hr hk hrt
  go_enter Try.func58, Try.ntmps58
  go_wp2_with (first
    | (refine step_box rfl 57 (.tmp 0) rfl _ rfl ?_; intro gX W1 hg_ hx_ hb_; have GE_gX := Aside0.mk (show w.heap.size ≤ gX by have := HB_0.out.size; omega); have HB_1 := Aside0.mk (HB_0.out.trans (hb_.mono HB_0.out.size)); have HX_1 := Aside0.mk (hx_); clear hg_ hx_ hb_ HB_0)
    | ((with_reducible refine gate_dst (N := 7) rfl ?_); go_loud (obtain ⟨gm, hgm_⟩ : ∃ gm, gm = W1.heap.size := ⟨_, rfl⟩; rw [← hgm_]; generalize hw_ : W1.alloc (.map #[] 0) = W2; have hb_ : Below W1.heap.size W1 W2 := (by rw [← hw_]; exact below_alloc (Below.refl _ _) _); have HM := Aside0.mk (show MapIs W2 gm [] by rw [← hw_, hgm_]; exact heap_alloc_new W1 _); have HGM := Aside0.mk (show gm < W2.heap.size by rw [← hw_, hgm_]; show _ < (W1.heap.push _).size; simp); have HB_2 := Aside0.mk (HB_1.out.trans (hb_.mono HB_1.out.size)); have HX_2 := Aside0.mk (HX_1.out.below hb_); clear hw_ hb_ hgm_ HB_1 HX_1; refine step_load rfl 57 (.tmp 1) rfl gX rfl _ _ _ HX_2.out Try.underlying57 rfl 68 (by kernel_rfl) (bkL_length _ _ _ _ _ HL.out) ?_))
    | (go_at_call 48; go_loud (refine (right_any' b HK.out _ _ ⟨A, c, A', c', rfl, HR.out.below HB_2.out⟩).mono ?_; rintro e W3 ⟨rfl, hb_⟩; rw [HRT.out]; have HM3 := Aside0.mk (show MapIs W3 gm [] from (hb_.block gm HGM.out).trans HM.out); have HB_3 := Aside0.mk (HB_2.out.trans (hb_.mono HB_2.out.size)); have HX_3 := Aside0.mk (HX_2.out.below hb_); clear hb_ HB_2 HX_2)))
  go_ret
  exact ⟨gm, rfl, HM3.out, HB_3.out⟩
theorem of_no (b : Bk) (hk : BkOk b) (hrt : rightB b = false) (x : Int) (h0 : 0 ≤ x) (h1 : x < 4294967296) (v : Value) (w : World) (h : BkV w v b) :
    Calls Try.prog 56 #[v, .int .u32 x] w fun e w' => e = .returned (.tuple #[.agg #[.string ⟨#[]⟩, .string ⟨#[]⟩], .bool false]) ∧ Below w.heap.size w w' := by
  have hpl := fun v w h => place_any b hk x h0 h1 v w h
  by_cases hf : firstI x = b.addr
  · rw [decide_eq_true hf] at hpl
    exact of_wrong b hk x _ true hpl hrt v w h
  · rw [decide_eq_false hf] at hpl
    exact of_far b hk x _ hpl v w h
end Go.Proofs.Ytemhalnhbgkbcaa.V
end

-- BAsgAt
section
/- block.AssignAt. -/
namespace Go.Proofs.Ytemhalnhbgkbcaa.V
open Go.RowKit Go.Proofs.YtemhalnhbgkbcaaW.PrintWords Go.Proofs.YtemhalnhbgkbcaaW.PrintLast Go.Proofs.YtemhalnhbgkbcaaW.PrintMore
set_option linter.unusedVariables false
set_option linter.unusedSimpArgs false

set_option maxHeartbeats 16000000 in
set_option maxRecDepth 100000 in
theorem assignAt_x (b : Bk) (hk : BkOk b) (x q : Int) (pb : Bool) (a : At) (hpl : ∀ (v : Value) (w : World), BkV w v b → Calls Try.prog 92 #[v, .int .u32 x] w fun e w' => e = .returned (.tuple #[.int .i64 q, .bool pb]) ∧ Below w.heap.size w w') (hno : (rightB b && (mayAt a && pb)) = false) (v : Value) (w : World) (h : BkV w v b) :
    Calls Try.prog 51 #[v, .int .u32 x, atV a] w fun e w' => ∃ v', e = .returned (.tuple #[v', .int .i64 1]) ∧ BkO w' w.heap.size v' zbk ∧ Below w.heap.size w w' := by
  obtain ⟨A, c, A', c', rfl, hr⟩ := h
  have HL := Aside0.mk hr.l64
  have HR := Aside0.mk hr
  have HK := Aside0.mk hk
  have HB_0 := Aside0.mk (Below.refl w.heap.size w)
  have HPL := Aside0.mk hpl
  clear hr hk hpl
  cases hrt : rightB b with
  | false =>
    have HRT := Aside0.mk hrt
    clear hrt hno
    go_enter Try.func51, Try.ntmps51
    go_wp2_with (first
      | (refine step_box rfl 57 (.tmp 0) rfl _ rfl ?_; intro gX W1 hg_ hx_ hb_; have GE_gX := Aside0.mk (show w.heap.size ≤ gX by have := HB_0.out.size; omega); have HB_1 := Aside0.mk (HB_0.out.trans (hb_.mono HB_0.out.size)); have HX_1 := Aside0.mk (hx_); clear hg_ hx_ hb_ HB_0)
      | (refine step_box rfl 85 (.tmp 2) rfl _ rfl ?_; intro gA W2 hg_ hx_ hb_; have GE_gA := Aside0.mk (show w.heap.size ≤ gA by have := HB_1.out.size; omega); have NE_gX_gA := Aside0.mk (show gX ≠ gA by have := HX_1.out.lt; omega); have HB_2 := Aside0.mk (HB_1.out.trans (hb_.mono HB_1.out.size)); have HX_2 := Aside0.mk (HX_1.out.below hb_); have HA_2 := Aside0.mk (hx_); clear hg_ hx_ hb_ HB_1 HX_1)
      | (refine step_allocN (some 6) rfl rfl 57 rfl zeroL zero57 ?_; intro gZ W3 hg_ hx_ hb_; have GE_gZ := Aside0.mk (show w.heap.size ≤ gZ by have := HB_2.out.size; omega); have NE_gX_gZ := Aside0.mk (show gX ≠ gZ by have := HX_2.out.lt; omega); have NE_gA_gZ := Aside0.mk (show gA ≠ gZ by have := HA_2.out.lt; omega); have HB_3 := Aside0.mk (HB_2.out.trans (hb_.mono HB_2.out.size)); have HX_3 := Aside0.mk (HX_2.out.below hb_); have HA_3 := Aside0.mk (HA_2.out.below hb_); have HZ_3 := Aside0.mk (hx_); clear hg_ hx_ hb_ HB_2 HX_2 HA_2)
      | ((with_reducible refine gate_dst (N := 11) rfl ?_); refine step_load rfl 57 (.tmp 3) rfl gX rfl _ _ _ HX_3.out Try.underlying57 rfl 68 (by kernel_rfl) (bkL_length _ _ _ _ _ HL.out) ?_)
      | (go_at_call 92; refine (HPL.out _ _ ⟨A, c, A', c', rfl, HR.out.below HB_3.out⟩).mono ?_; rintro e W4 ⟨rfl, hb_⟩; have HB_4 := Aside0.mk (HB_3.out.trans (hb_.mono HB_3.out.size)); have HX_4 := Aside0.mk (HX_3.out.below hb_); have HA_4 := Aside0.mk (HA_3.out.below hb_); have HZ_4 := Aside0.mk (HZ_3.out.below hb_); clear hb_ HB_3 HX_3 HA_3 HZ_3)
      | ((with_reducible refine gate_dst (N := 17) rfl ?_); obtain ⟨gI, hg_⟩ : ∃ g_, g_ = W4.heap.size := ⟨_, rfl⟩; rw [← hg_]; generalize hw_ : W4.alloc (.cells #[.int .i64 q] 3) = W5; have hb_ : Below W4.heap.size W4 W5 := (by rw [← hw_]; exact below_alloc (Below.refl _ _) _); have hx_ : Box W5 gI [.int .i64 q] 3 := (by rw [← hw_, hg_]; exact heap_alloc_new W4 _); have hge_ : W4.heap.size ≤ gI := Nat.le_of_eq hg_.symm; have GE_gI := Aside0.mk (show w.heap.size ≤ gI by have := HB_4.out.size; omega); have NE_gX_gI := Aside0.mk (show gX ≠ gI by have := HX_4.out.lt; omega); have NE_gA_gI := Aside0.mk (show gA ≠ gI by have := HA_4.out.lt; omega); have NE_gZ_gI := Aside0.mk (show gZ ≠ gI by have := HZ_4.out.lt; omega); have HB_5 := Aside0.mk (HB_4.out.trans (hb_.mono HB_4.out.size)); have HX_5 := Aside0.mk (HX_4.out.below hb_); have HA_5 := Aside0.mk (HA_4.out.below hb_); have HZ_5 := Aside0.mk (HZ_4.out.below hb_); have HI_5 := Aside0.mk (hx_); clear hw_ hb_ hx_ hge_ hg_ HB_4 HX_4 HA_4 HZ_4; refine step_load rfl 57 (.tmp 3) rfl gX rfl _ _ _ HX_5.out Try.underlying57 rfl 68 (by kernel_rfl) (bkL_length _ _ _ _ _ HL.out) ?_)
      | (go_at_call 48; refine (right_any' b HK.out _ _ ⟨A, c, A', c', rfl, HR.out.below HB_5.out⟩).mono ?_; rintro e W6 ⟨rfl, hb_⟩; rw [HRT.out]; have HB_6 := Aside0.mk (HB_5.out.trans (hb_.mono HB_5.out.size)); have HX_6 := Aside0.mk (HX_5.out.below hb_); have HA_6 := Aside0.mk (HA_5.out.below hb_); have HZ_6 := Aside0.mk (HZ_5.out.below hb_); have HI_6 := Aside0.mk (HI_5.out.below hb_); clear hb_ HB_5 HX_5 HA_5 HZ_5 HI_5)
      | (refine step_build rfl 57 #[] rfl zeroL built0 ?_)
      | (refine step_store rfl 57 (.tmp 6) (.tmp 29) rfl gZ zeroL rfl rfl 57 _ HZ_6.out 68 (by kernel_rfl) rfl rfl zeroL_one ?_; intro W7 hx_ hg_; have HB_7 := Aside0.mk (HB_6.out.grown hg_ HB_6.out.size (by intro k hk; cases hk; exact GE_gZ.out)); have HX_7 := Aside0.mk (HX_6.out.grown hg_ (fun e => NE_gX_gZ.out (Option.some.inj e))); have HA_7 := Aside0.mk (HA_6.out.grown hg_ (fun e => (HA_6.out.ne HZ_6.out (by decide)) (Option.some.inj e))); have HZ_7 := Aside0.mk (hx_); have HI_7 := Aside0.mk (HI_6.out.grown hg_ (fun e => (HI_6.out.ne HZ_6.out (by decide)) (Option.some.inj e))); clear hx_ hg_ HB_6 HX_6 HA_6 HZ_6 HI_6))
    exact bodyPost_ret (results_ct rfl _ _ gZ 57 _ (0, 0) _ rfl HZ_7.out Try.underlying57 rfl (by simp only [List.size_toArray]; exact size57 _ rfl)) rfl ⟨_, rfl, zbk_O _ _, HB_7.out⟩
  | true =>
    have HRT := Aside0.mk hrt
    cases hm : mayAt a with
    | false =>
      have HMY := Aside0.mk hm
      clear hrt hno hm
      go_enter Try.func51, Try.ntmps51
      go_wp2_with (first
        | (refine step_box rfl 57 (.tmp 0) rfl _ rfl ?_; intro gX W1 hg_ hx_ hb_; have GE_gX := Aside0.mk (show w.heap.size ≤ gX by have := HB_0.out.size; omega); have HB_1 := Aside0.mk (HB_0.out.trans (hb_.mono HB_0.out.size)); have HX_1 := Aside0.mk (hx_); clear hg_ hx_ hb_ HB_0)
        | (refine step_box rfl 85 (.tmp 2) rfl _ rfl ?_; intro gA W2 hg_ hx_ hb_; have GE_gA := Aside0.mk (show w.heap.size ≤ gA by have := HB_1.out.size; omega); have NE_gX_gA := Aside0.mk (show gX ≠ gA by have := HX_1.out.lt; omega); have HB_2 := Aside0.mk (HB_1.out.trans (hb_.mono HB_1.out.size)); have HX_2 := Aside0.mk (HX_1.out.below hb_); have HA_2 := Aside0.mk (hx_); clear hg_ hx_ hb_ HB_1 HX_1)
        | (refine step_allocN (some 6) rfl rfl 57 rfl zeroL zero57 ?_; intro gZ W3 hg_ hx_ hb_; have GE_gZ := Aside0.mk (show w.heap.size ≤ gZ by have := HB_2.out.size; omega); have NE_gX_gZ := Aside0.mk (show gX ≠ gZ by have := HX_2.out.lt; omega); have NE_gA_gZ := Aside0.mk (show gA ≠ gZ by have := HA_2.out.lt; omega); have HB_3 := Aside0.mk (HB_2.out.trans (hb_.mono HB_2.out.size)); have HX_3 := Aside0.mk (HX_2.out.below hb_); have HA_3 := Aside0.mk (HA_2.out.below hb_); have HZ_3 := Aside0.mk (hx_); clear hg_ hx_ hb_ HB_2 HX_2 HA_2)
        | ((with_reducible refine gate_dst (N := 11) rfl ?_); refine step_load rfl 57 (.tmp 3) rfl gX rfl _ _ _ HX_3.out Try.underlying57 rfl 68 (by kernel_rfl) (bkL_length _ _ _ _ _ HL.out) ?_)
        | (go_at_call 92; refine (HPL.out _ _ ⟨A, c, A', c', rfl, HR.out.below HB_3.out⟩).mono ?_; rintro e W4 ⟨rfl, hb_⟩; have HB_4 := Aside0.mk (HB_3.out.trans (hb_.mono HB_3.out.size)); have HX_4 := Aside0.mk (HX_3.out.below hb_); have HA_4 := Aside0.mk (HA_3.out.below hb_); have HZ_4 := Aside0.mk (HZ_3.out.below hb_); clear hb_ HB_3 HX_3 HA_3 HZ_3)
        | ((with_reducible refine gate_dst (N := 17) rfl ?_); obtain ⟨gI, hg_⟩ : ∃ g_, g_ = W4.heap.size := ⟨_, rfl⟩; rw [← hg_]; generalize hw_ : W4.alloc (.cells #[.int .i64 q] 3) = W5; have hb_ : Below W4.heap.size W4 W5 := (by rw [← hw_]; exact below_alloc (Below.refl _ _) _); have hx_ : Box W5 gI [.int .i64 q] 3 := (by rw [← hw_, hg_]; exact heap_alloc_new W4 _); have hge_ : W4.heap.size ≤ gI := Nat.le_of_eq hg_.symm; have GE_gI := Aside0.mk (show w.heap.size ≤ gI by have := HB_4.out.size; omega); have NE_gX_gI := Aside0.mk (show gX ≠ gI by have := HX_4.out.lt; omega); have NE_gA_gI := Aside0.mk (show gA ≠ gI by have := HA_4.out.lt; omega); have NE_gZ_gI := Aside0.mk (show gZ ≠ gI by have := HZ_4.out.lt; omega); have HB_5 := Aside0.mk (HB_4.out.trans (hb_.mono HB_4.out.size)); have HX_5 := Aside0.mk (HX_4.out.below hb_); have HA_5 := Aside0.mk (HA_4.out.below hb_); have HZ_5 := Aside0.mk (HZ_4.out.below hb_); have HI_5 := Aside0.mk (hx_); clear hw_ hb_ hx_ hge_ hg_ HB_4 HX_4 HA_4 HZ_4; refine step_load rfl 57 (.tmp 3) rfl gX rfl _ _ _ HX_5.out Try.underlying57 rfl 68 (by kernel_rfl) (bkL_length _ _ _ _ _ HL.out) ?_)
        | (go_at_call 48; refine (right_any' b HK.out _ _ ⟨A, c, A', c', rfl, HR.out.below HB_5.out⟩).mono ?_; rintro e W6 ⟨rfl, hb_⟩; rw [HRT.out]; have HB_6 := Aside0.mk (HB_5.out.trans (hb_.mono HB_5.out.size)); have HX_6 := Aside0.mk (HX_5.out.below hb_); have HA_6 := Aside0.mk (HA_5.out.below hb_); have HZ_6 := Aside0.mk (HZ_5.out.below hb_); have HI_6 := Aside0.mk (HI_5.out.below hb_); clear hb_ HB_5 HX_5 HA_5 HZ_5 HI_5)
        | ((with_reducible refine gate_dst (N := 21) rfl ?_); refine gate_guard (by rfl) ?_; refine step_load rfl 85 (.tmp 5) rfl gA rfl _ _ _ HA_6.out Try.underlying85 rfl 2 (by kernel_rfl) rfl ?_)
        | (go_at_call 88; refine (bmay_any a _).mono ?_; rintro e W7 ⟨rfl, hb_⟩; rw [HMY.out]; have HB_7 := Aside0.mk (HB_6.out.trans (hb_.mono HB_6.out.size)); have HX_7 := Aside0.mk (HX_6.out.below hb_); have HA_7 := Aside0.mk (HA_6.out.below hb_); have HZ_7 := Aside0.mk (HZ_6.out.below hb_); have HI_7 := Aside0.mk (HI_6.out.below hb_); clear hb_ HB_6 HX_6 HA_6 HZ_6 HI_6)
        | (refine step_build rfl 57 #[] rfl zeroL built0 ?_)
        | (refine step_store rfl 57 (.tmp 6) (.tmp 29) rfl gZ zeroL rfl rfl 57 _ HZ_7.out 68 (by kernel_rfl) rfl rfl zeroL_one ?_; intro W8 hx_ hg_; have HB_8 := Aside0.mk (HB_7.out.grown hg_ HB_7.out.size (by intro k hk; cases hk; exact GE_gZ.out)); have HX_8 := Aside0.mk (HX_7.out.grown hg_ (fun e => NE_gX_gZ.out (Option.some.inj e))); have HA_8 := Aside0.mk (HA_7.out.grown hg_ (fun e => (HA_7.out.ne HZ_7.out (by decide)) (Option.some.inj e))); have HZ_8 := Aside0.mk (hx_); have HI_8 := Aside0.mk (HI_7.out.grown hg_ (fun e => (HI_7.out.ne HZ_7.out (by decide)) (Option.some.inj e))); clear hx_ hg_ HB_7 HX_7 HA_7 HZ_7 HI_7))
      exact bodyPost_ret (results_ct rfl _ _ gZ 57 _ (0, 0) _ rfl HZ_8.out Try.underlying57 rfl (by simp only [List.size_toArray]; exact size57 _ rfl)) rfl ⟨_, rfl, zbk_O _ _, HB_8.out⟩
    | true =>
      have HMY := Aside0.mk hm
      rw [hrt, hm] at hno
      obtain rfl : pb = false := by simpa using hno
      clear hrt hno hm
      go_enter Try.func51, Try.ntmps51
      go_wp2_with (first
        | (refine step_box rfl 57 (.tmp 0) rfl _ rfl ?_; intro gX W1 hg_ hx_ hb_; have GE_gX := Aside0.mk (show w.heap.size ≤ gX by have := HB_0.out.size; omega); have HB_1 := Aside0.mk (HB_0.out.trans (hb_.mono HB_0.out.size)); have HX_1 := Aside0.mk (hx_); clear hg_ hx_ hb_ HB_0)
        | (refine step_box rfl 85 (.tmp 2) rfl _ rfl ?_; intro gA W2 hg_ hx_ hb_; have GE_gA := Aside0.mk (show w.heap.size ≤ gA by have := HB_1.out.size; omega); have NE_gX_gA := Aside0.mk (show gX ≠ gA by have := HX_1.out.lt; omega); have HB_2 := Aside0.mk (HB_1.out.trans (hb_.mono HB_1.out.size)); have HX_2 := Aside0.mk (HX_1.out.below hb_); have HA_2 := Aside0.mk (hx_); clear hg_ hx_ hb_ HB_1 HX_1)
        | (refine step_allocN (some 6) rfl rfl 57 rfl zeroL zero57 ?_; intro gZ W3 hg_ hx_ hb_; have GE_gZ := Aside0.mk (show w.heap.size ≤ gZ by have := HB_2.out.size; omega); have NE_gX_gZ := Aside0.mk (show gX ≠ gZ by have := HX_2.out.lt; omega); have NE_gA_gZ := Aside0.mk (show gA ≠ gZ by have := HA_2.out.lt; omega); have HB_3 := Aside0.mk (HB_2.out.trans (hb_.mono HB_2.out.size)); have HX_3 := Aside0.mk (HX_2.out.below hb_); have HA_3 := Aside0.mk (HA_2.out.below hb_); have HZ_3 := Aside0.mk (hx_); clear hg_ hx_ hb_ HB_2 HX_2 HA_2)
        | ((with_reducible refine gate_dst (N := 11) rfl ?_); refine step_load rfl 57 (.tmp 3) rfl gX rfl _ _ _ HX_3.out Try.underlying57 rfl 68 (by kernel_rfl) (bkL_length _ _ _ _ _ HL.out) ?_)
        | (go_at_call 92; refine (HPL.out _ _ ⟨A, c, A', c', rfl, HR.out.below HB_3.out⟩).mono ?_; rintro e W4 ⟨rfl, hb_⟩; have HB_4 := Aside0.mk (HB_3.out.trans (hb_.mono HB_3.out.size)); have HX_4 := Aside0.mk (HX_3.out.below hb_); have HA_4 := Aside0.mk (HA_3.out.below hb_); have HZ_4 := Aside0.mk (HZ_3.out.below hb_); clear hb_ HB_3 HX_3 HA_3 HZ_3)
        | ((with_reducible refine gate_dst (N := 17) rfl ?_); obtain ⟨gI, hg_⟩ : ∃ g_, g_ = W4.heap.size := ⟨_, rfl⟩; rw [← hg_]; generalize hw_ : W4.alloc (.cells #[.int .i64 q] 3) = W5; have hb_ : Below W4.heap.size W4 W5 := (by rw [← hw_]; exact below_alloc (Below.refl _ _) _); have hx_ : Box W5 gI [.int .i64 q] 3 := (by rw [← hw_, hg_]; exact heap_alloc_new W4 _); have hge_ : W4.heap.size ≤ gI := Nat.le_of_eq hg_.symm; have GE_gI := Aside0.mk (show w.heap.size ≤ gI by have := HB_4.out.size; omega); have NE_gX_gI := Aside0.mk (show gX ≠ gI by have := HX_4.out.lt; omega); have NE_gA_gI := Aside0.mk (show gA ≠ gI by have := HA_4.out.lt; omega); have NE_gZ_gI := Aside0.mk (show gZ ≠ gI by have := HZ_4.out.lt; omega); have HB_5 := Aside0.mk (HB_4.out.trans (hb_.mono HB_4.out.size)); have HX_5 := Aside0.mk (HX_4.out.below hb_); have HA_5 := Aside0.mk (HA_4.out.below hb_); have HZ_5 := Aside0.mk (HZ_4.out.below hb_); have HI_5 := Aside0.mk (hx_); clear hw_ hb_ hx_ hge_ hg_ HB_4 HX_4 HA_4 HZ_4; refine step_load rfl 57 (.tmp 3) rfl gX rfl _ _ _ HX_5.out Try.underlying57 rfl 68 (by kernel_rfl) (bkL_length _ _ _ _ _ HL.out) ?_)
        | (go_at_call 48; refine (right_any' b HK.out _ _ ⟨A, c, A', c', rfl, HR.out.below HB_5.out⟩).mono ?_; rintro e W6 ⟨rfl, hb_⟩; rw [HRT.out]; have HB_6 := Aside0.mk (HB_5.out.trans (hb_.mono HB_5.out.size)); have HX_6 := Aside0.mk (HX_5.out.below hb_); have HA_6 := Aside0.mk (HA_5.out.below hb_); have HZ_6 := Aside0.mk (HZ_5.out.below hb_); have HI_6 := Aside0.mk (HI_5.out.below hb_); clear hb_ HB_5 HX_5 HA_5 HZ_5 HI_5)
        | ((with_reducible refine gate_dst (N := 21) rfl ?_); refine gate_guard (by rfl) ?_; refine step_load rfl 85 (.tmp 5) rfl gA rfl _ _ _ HA_6.out Try.underlying85 rfl 2 (by kernel_rfl) rfl ?_)
        | (go_at_call 88; refine (bmay_any a _).mono ?_; rintro e W7 ⟨rfl, hb_⟩; rw [HMY.out]; have HB_7 := Aside0.mk (HB_6.out.trans (hb_.mono HB_6.out.size)); have HX_7 := Aside0.mk (HX_6.out.below hb_); have HA_7 := Aside0.mk (HA_6.out.below hb_); have HZ_7 := Aside0.mk (HZ_6.out.below hb_); have HI_7 := Aside0.mk (HI_6.out.below hb_); clear hb_ HB_6 HX_6 HA_6 HZ_6 HI_6)
        | (refine step_build rfl 57 #[] rfl zeroL built0 ?_)
        | (refine step_store rfl 57 (.tmp 6) (.tmp 29) rfl gZ zeroL rfl rfl 57 _ HZ_7.out 68 (by kernel_rfl) rfl rfl zeroL_one ?_; intro W8 hx_ hg_; have HB_8 := Aside0.mk (HB_7.out.grown hg_ HB_7.out.size (by intro k hk; cases hk; exact GE_gZ.out)); have HX_8 := Aside0.mk (HX_7.out.grown hg_ (fun e => NE_gX_gZ.out (Option.some.inj e))); have HA_8 := Aside0.mk (HA_7.out.grown hg_ (fun e => (HA_7.out.ne HZ_7.out (by decide)) (Option.some.inj e))); have HZ_8 := Aside0.mk (hx_); have HI_8 := Aside0.mk (HI_7.out.grown hg_ (fun e => (HI_7.out.ne HZ_7.out (by decide)) (Option.some.inj e))); clear hx_ hg_ HB_7 HX_7 HA_7 HZ_7 HI_7))
      exact bodyPost_ret (results_ct rfl _ _ gZ 57 _ (0, 0) _ rfl HZ_8.out Try.underlying57 rfl (by simp only [List.size_toArray]; exact size57 _ rfl)) rfl ⟨_, rfl, zbk_O _ _, HB_8.out⟩
def asgat7.T7 : Bool × List (List Nat × List Nat) := (true, [([], []), ([], []), ([1], [1]), ([], []), ([3, 0, 0, 1, 2], [0, 3]), ([4, 2, 2, 0, 1, 2], [2, 4])])
def asgat7.B7 : List Nat := [0, 0, 2, 0, 15, 31]
theorem asgat7.tab7 : rtab .any (opsOf Try.f51 7) = asgat7.T7 := by kernel_rfl
theorem asgat7.bits7 : waitsOk asgat7.T7.2 asgat7.B7 = true := by kernel_rfl
end Go.Proofs.Ytemhalnhbgkbcaa.V
end

-- BRelHN
section
/- block.ReleaseHandle, block.ReleaseNode. -/
namespace Go.Proofs.Ytemhalnhbgkbcaa.V
open Go.RowKit Go.Proofs.YtemhalnhbgkbcaaW.PrintWords Go.Proofs.YtemhalnhbgkbcaaW.PrintLast Go.Proofs.YtemhalnhbgkbcaaW.PrintMore
set_option linter.unusedVariables false
set_option linter.unusedSimpArgs false

set_option maxHeartbeats 16000000 in
set_option maxRecDepth 100000 in
theorem relHandle_no (b : Bk) (hk : BkOk b) (id : ByteArray) (hrt : rightB b = false) (v : Value) (w : World) (h : BkV w v b) :
    Calls Try.prog 53 #[v, .string id] w fun e w' => ∃ v' vo, e = .returned (.tuple #[v', vo, .int .i64 1]) ∧ BkO w' w.heap.size v' zbk ∧ Kd.R (Kd.int .u32) 46 w' w.heap.size (fun _ => True) vo [] ∧ Below w.heap.size w w' := by
  obtain ⟨A, c, A', c', rfl, hr⟩ := h
  have HL := Aside0.mk hr.l64
  have HR := Aside0.mk hr
  have HK := Aside0.mk hk
  have HRT := Aside0.mk hrt
  have HB_0 := Aside0.mk (Below.refl w.heap.size w)
  clear hr hk hrt
  go_enter Try.func53, Try.ntmps53
  go_wp2_with (first
    | (refine step_box rfl 57 (.tmp 0) rfl _ rfl ?_; intro gX W1 hg_ hx_ hb_; have GE_gX := Aside0.mk (show w.heap.size ≤ gX by have := HB_0.out.size; omega); have HB_1 := Aside0.mk (HB_0.out.trans (hb_.mono HB_0.out.size)); have HX_1 := Aside0.mk (hx_); clear hg_ hx_ hb_ HB_0)
    | ((with_reducible refine gate_dst (N := 4) rfl ?_); go_loud (obtain ⟨gI, hg_⟩ : ∃ g_, g_ = W1.heap.size := ⟨_, rfl⟩; rw [← hg_]; generalize hw_ : W1.alloc (.cells #[.string id] 9) = W2; have hb_ : Below W1.heap.size W1 W2 := (by rw [← hw_]; exact below_alloc (Below.refl _ _) _); have hx_ : Box W2 gI [.string id] 9 := (by rw [← hw_, hg_]; exact heap_alloc_new W1 _); have hge_ : W1.heap.size ≤ gI := Nat.le_of_eq hg_.symm; have GE_gI := Aside0.mk (show w.heap.size ≤ gI by have := HB_1.out.size; omega); have NE_gX_gI := Aside0.mk (show gX ≠ gI by have := HX_1.out.lt; omega); have HB_2 := Aside0.mk (HB_1.out.trans (hb_.mono HB_1.out.size)); have HX_2 := Aside0.mk (HX_1.out.below hb_); have HI_2 := Aside0.mk (hx_); clear hw_ hb_ hx_ hge_ hg_ HB_1 HX_1; refine step_allocN (some 4) rfl rfl 57 rfl zeroL zero57 ?_; intro gZ W3 hg_ hx_ hb_; have GE_gZ := Aside0.mk (show w.heap.size ≤ gZ by have := HB_2.out.size; omega); have NE_gX_gZ := Aside0.mk (show gX ≠ gZ by have := HX_2.out.lt; omega); have NE_gI_gZ := Aside0.mk (show gI ≠ gZ by have := HI_2.out.lt; omega); have HB_3 := Aside0.mk (HB_2.out.trans (hb_.mono HB_2.out.size)); have HX_3 := Aside0.mk (HX_2.out.below hb_); have HI_3 := Aside0.mk (HI_2.out.below hb_); have HZ_3 := Aside0.mk (hx_); clear hg_ hx_ hb_ HB_2 HX_2 HI_2))
    | ((with_reducible refine gate_dst (N := 7) rfl ?_); go_loud (refine step_load rfl 57 (.tmp 2) rfl gX rfl _ _ _ HX_3.out Try.underlying57 rfl 68 (by kernel_rfl) (bkL_length _ _ _ _ _ HL.out) ?_))
    | (go_at_call 48; go_loud (refine (right_any' b HK.out _ _ ⟨A, c, A', c', rfl, HR.out.below HB_3.out⟩).mono ?_; rintro e W4 ⟨rfl, hb_⟩; rw [HRT.out]; have HB_4 := Aside0.mk (HB_3.out.trans (hb_.mono HB_3.out.size)); have HX_4 := Aside0.mk (HX_3.out.below hb_); have HI_4 := Aside0.mk (HI_3.out.below hb_); have HZ_4 := Aside0.mk (HZ_3.out.below hb_); clear hb_ HB_3 HX_3 HI_3 HZ_3))
    | (refine step_build rfl 57 #[] rfl zeroL built0 ?_)
    | (refine step_store rfl 57 (.tmp 4) (.tmp 10) rfl gZ zeroL rfl rfl 57 _ HZ_4.out 68 (by kernel_rfl) rfl rfl zeroL_one ?_; intro W5 hx_ hg_; have HB_5 := Aside0.mk (HB_4.out.grown hg_ HB_4.out.size (by intro k hk; cases hk; exact GE_gZ.out)); have HX_5 := Aside0.mk (HX_4.out.grown hg_ (fun e => NE_gX_gZ.out (Option.some.inj e))); have HI_5 := Aside0.mk (HI_4.out.grown hg_ (fun e => (HI_4.out.ne HZ_4.out (by decide)) (Option.some.inj e))); have HZ_5 := Aside0.mk (hx_); clear hx_ hg_ HB_4 HX_4 HI_4 HZ_4))
  exact bodyPost_ret (results_ctt rfl _ _ gZ 57 _ (0, 0) _ rfl HZ_5.out Try.underlying57 rfl (by simp only [List.size_toArray]; exact size57 _ rfl)) rfl ⟨_, _, rfl, zbk_O _ _, Kd.R_nil _ _ _ _ _, HB_5.out⟩
set_option maxHeartbeats 16000000 in
set_option maxRecDepth 100000 in
theorem relNode_no (b : Bk) (hk : BkOk b) (id : ByteArray) (hrt : rightB b = false) (v : Value) (w : World) (h : BkV w v b) :
    Calls Try.prog 54 #[v, .string id] w fun e w' => ∃ v' vo, e = .returned (.tuple #[v', vo, .int .i64 1]) ∧ BkO w' w.heap.size v' zbk ∧ Kd.R (Kd.int .u32) 46 w' w.heap.size (fun _ => True) vo [] ∧ Below w.heap.size w w' := by
  obtain ⟨A, c, A', c', rfl, hr⟩ := h
  have HL := Aside0.mk hr.l64
  have HR := Aside0.mk hr
  have HK := Aside0.mk hk
  have HRT := Aside0.mk hrt
  have HB_0 := Aside0.mk (Below.refl w.heap.size w)
  clear hr hk hrt
  go_enter Try.func54, Try.ntmps54
  go_wp2_with (first
    | (refine step_box rfl 57 (.tmp 0) rfl _ rfl ?_; intro gX W1 hg_ hx_ hb_; have GE_gX := Aside0.mk (show w.heap.size ≤ gX by have := HB_0.out.size; omega); have HB_1 := Aside0.mk (HB_0.out.trans (hb_.mono HB_0.out.size)); have HX_1 := Aside0.mk (hx_); clear hg_ hx_ hb_ HB_0)
    | ((with_reducible refine gate_dst (N := 4) rfl ?_); go_loud (obtain ⟨gI, hg_⟩ : ∃ g_, g_ = W1.heap.size := ⟨_, rfl⟩; rw [← hg_]; generalize hw_ : W1.alloc (.cells #[.string id] 9) = W2; have hb_ : Below W1.heap.size W1 W2 := (by rw [← hw_]; exact below_alloc (Below.refl _ _) _); have hx_ : Box W2 gI [.string id] 9 := (by rw [← hw_, hg_]; exact heap_alloc_new W1 _); have hge_ : W1.heap.size ≤ gI := Nat.le_of_eq hg_.symm; have GE_gI := Aside0.mk (show w.heap.size ≤ gI by have := HB_1.out.size; omega); have NE_gX_gI := Aside0.mk (show gX ≠ gI by have := HX_1.out.lt; omega); have HB_2 := Aside0.mk (HB_1.out.trans (hb_.mono HB_1.out.size)); have HX_2 := Aside0.mk (HX_1.out.below hb_); have HI_2 := Aside0.mk (hx_); clear hw_ hb_ hx_ hge_ hg_ HB_1 HX_1; refine step_allocN (some 4) rfl rfl 57 rfl zeroL zero57 ?_; intro gZ W3 hg_ hx_ hb_; have GE_gZ := Aside0.mk (show w.heap.size ≤ gZ by have := HB_2.out.size; omega); have NE_gX_gZ := Aside0.mk (show gX ≠ gZ by have := HX_2.out.lt; omega); have NE_gI_gZ := Aside0.mk (show gI ≠ gZ by have := HI_2.out.lt; omega); have HB_3 := Aside0.mk (HB_2.out.trans (hb_.mono HB_2.out.size)); have HX_3 := Aside0.mk (HX_2.out.below hb_); have HI_3 := Aside0.mk (HI_2.out.below hb_); have HZ_3 := Aside0.mk (hx_); clear hg_ hx_ hb_ HB_2 HX_2 HI_2))
    | ((with_reducible refine gate_dst (N := 7) rfl ?_); go_loud (refine step_load rfl 57 (.tmp 2) rfl gX rfl _ _ _ HX_3.out Try.underlying57 rfl 68 (by kernel_rfl) (bkL_length _ _ _ _ _ HL.out) ?_))
    | (go_at_call 48; go_loud (refine (right_any' b HK.out _ _ ⟨A, c, A', c', rfl, HR.out.below HB_3.out⟩).mono ?_; rintro e W4 ⟨rfl, hb_⟩; rw [HRT.out]; have HB_4 := Aside0.mk (HB_3.out.trans (hb_.mono HB_3.out.size)); have HX_4 := Aside0.mk (HX_3.out.below hb_); have HI_4 := Aside0.mk (HI_3.out.below hb_); have HZ_4 := Aside0.mk (HZ_3.out.below hb_); clear hb_ HB_3 HX_3 HI_3 HZ_3))
    | (refine step_build rfl 57 #[] rfl zeroL built0 ?_)
    | (refine step_store rfl 57 (.tmp 4) (.tmp 10) rfl gZ zeroL rfl rfl 57 _ HZ_4.out 68 (by kernel_rfl) rfl rfl zeroL_one ?_; intro W5 hx_ hg_; have HB_5 := Aside0.mk (HB_4.out.grown hg_ HB_4.out.size (by intro k hk; cases hk; exact GE_gZ.out)); have HX_5 := Aside0.mk (HX_4.out.grown hg_ (fun e => NE_gX_gZ.out (Option.some.inj e))); have HI_5 := Aside0.mk (HI_4.out.grown hg_ (fun e => (HI_4.out.ne HZ_4.out (by decide)) (Option.some.inj e))); have HZ_5 := Aside0.mk (hx_); clear hx_ hg_ HB_4 HX_4 HI_4 HZ_4))
  exact bodyPost_ret (results_ctt rfl _ _ gZ 57 _ (0, 0) _ rfl HZ_5.out Try.underlying57 rfl (by simp only [List.size_toArray]; exact size57 _ rfl)) rfl ⟨_, _, rfl, zbk_O _ _, Kd.R_nil _ _ _ _ _, HB_5.out⟩
end Go.Proofs.Ytemhalnhbgkbcaa.V
end

-- BReader
section
/- pack.Reader: what is read. -/
namespace Go.Proofs.Ytemhalnhbgkbcaa.V
open Go.RowKit Go.Proofs.YtemhalnhbgkbcaaW.PrintWords Go.Proofs.YtemhalnhbgkbcaaW.PrintLast Go.Proofs.YtemhalnhbgkbcaaW.PrintMore
set_option linter.unusedVariables false
set_option linter.unusedSimpArgs false

/-- A reader: its bytes that are still to be read, in blocks that are ok. -/
structure Rd (W : World) (g : Nat) (ok : Nat → Prop) (v : Value) (l : List Int) (bad : Bool) : Prop where
  box : Box W g [v, .bool bad] 137
  vw : Kd.V (Kd.int .u8) 5 W 0 ok v l
  ng : ∀ k, ok k → k ≠ g
section
variable {W W1 : World} {g : Nat} {ok : Nat → Prop} {v : Value} {l : List Int} {bad : Bool}
theorem Rd.below (h : Rd W g ok v l bad) (hb : Below W.heap.size W W1) : Rd W1 g ok v l bad := ⟨h.box.below hb, Kd.V_below h.vw hb, h.ng⟩
theorem Rd.grown (h : Rd W g ok v l bad) {row : Option Nat} (hg : W.grownBy W1 row) (hr : ∀ k, ok k → some k ≠ row) (hn : some g ≠ row) : Rd W1 g ok v l bad := ⟨h.box.grown hg hn, Kd.V_grown h.vw hg hr, h.ng⟩
end
/-- So many bytes: they, what is left, whether it is bad. -/
def bytesP (l : List Int) (bad : Bool) (n : Int) : List Int × List Int × Bool := if bad = false ∧ 0 ≤ n ∧ n ≤ l.length then (l.take n.toNat, l.drop n.toNat, false) else ([], l, true)
end Go.Proofs.Ytemhalnhbgkbcaa.V
end

-- BReader2
section
/- pack.Reader: numbers, texts; how it stands; new ones. -/
namespace Go.Proofs.Ytemhalnhbgkbcaa.V
open Go.RowKit Go.Proofs.YtemhalnhbgkbcaaW.PrintWords Go.Proofs.YtemhalnhbgkbcaaW.PrintLast Go.Proofs.YtemhalnhbgkbcaaW.PrintMore
set_option linter.unusedVariables false
set_option linter.unusedSimpArgs false

/-- The number that bytes are. -/
def numP (l : List Int) : Nat := l.foldl (fun n c => n * 256 + c.toNat) 0
/-- A text behind its length: its bytes, what is left, whether it is bad. -/
def textP (l : List Int) (bad : Bool) : List Int × List Int × Bool := bytesP (bytesP l bad 1).2.1 ((bytesP l bad 1).2.2 || decide (64 < numP (bytesP l bad 1).1)) (numP (bytesP l bad 1).1 : Nat)
end Go.Proofs.Ytemhalnhbgkbcaa.V
end

-- BImgAttrs
section
/- image.attrs: attributes that are read. -/
namespace Go.Proofs.Ytemhalnhbgkbcaa.V
open Go.RowKit Go.Proofs.YtemhalnhbgkbcaaW.PrintWords Go.Proofs.YtemhalnhbgkbcaaW.PrintLast Go.Proofs.YtemhalnhbgkbcaaW.PrintMore
set_option linter.unusedVariables false
set_option linter.unusedSimpArgs false

def text2P (l : List Int) : List Int × List Int × Bool := textP (textP l false).2.1 (textP l false).2.2
def attr1 (l : List Int) : At := ⟨strOfNums (textP l false).1, strOfNums (text2P l).1⟩
/-- So many attributes, as long as nothing is bad: they, what is left, whether it is bad. -/
def attrsP : Nat → List Int → Bool → List At × List Int × Bool
  | 0, l, bad => ([], l, bad)
  | n + 1, l, bad => if bad = true then ([], l, true) else (attr1 l :: (attrsP n (text2P l).2.1 (text2P l).2.2).1, (attrsP n (text2P l).2.1 (text2P l).2.2).2)
def readAttrs (l : List Int) (bad : Bool) : List At × List Int × Bool := attrsP (numP (bytesP l bad 1).1) (bytesP l bad 1).2.1 (bytesP l bad 1).2.2
theorem Rd.bound {W : World} {g : Nat} {ok : Nat → Prop} {v : Value} {l : List Int} {bad : Bool} (h : Rd W g ok v l bad) : Rd W g (fun k => ok k ∧ k < W.heap.size) v l bad := ⟨h.box, Kd.V_bound h.vw, fun k hk => h.ng k hk.1⟩
theorem Rd.mono {W : World} {g : Nat} {ok ok' : Nat → Prop} {v : Value} {l : List Int} {bad : Bool} (h : Rd W g ok v l bad) (hm : ∀ k, ok k → ok' k) (hn : ∀ k, ok' k → k ≠ g) : Rd W g ok' v l bad := ⟨h.box, Kd.V_mono h.vw hm, hn⟩
end Go.Proofs.Ytemhalnhbgkbcaa.V
end

-- BReadP
section
/- image.Read: what is read, step by step; the copy into the slots; a reader of a text's bytes. -/
namespace Go.Proofs.Ytemhalnhbgkbcaa.V
open Go.RowKit Go.Proofs.YtemhalnhbgkbcaaW.PrintWords Go.Proofs.YtemhalnhbgkbcaaW.PrintLast Go.Proofs.YtemhalnhbgkbcaaW.PrintMore
set_option linter.unusedVariables false
set_option linter.unusedSimpArgs false

def r0 (s : ByteArray) := bytesP (bytesOf s) false 1
def r1 (s : ByteArray) := bytesP (r0 s).2.1 (r0 s).2.2 4
def r2 (s : ByteArray) := textP (r1 s).2.1 (r1 s).2.2
def r3 (s : ByteArray) := readAttrs (r2 s).2.1 (r2 s).2.2
def r4 (s : ByteArray) := bytesP (r3 s).2.1 (r3 s).2.2 64
def r5 (s : ByteArray) := bytesP (r4 s).2.1 (r4 s).2.2 1
section
variable {g : Nat} {ok : Nat → Prop} {v : Value} {W : World}
end
end Go.Proofs.Ytemhalnhbgkbcaa.V
end

-- VFBlockAttr78
section
-- PRINTED by print.py (a twelfth state) out of the translation. Not trusted: Lean checks it.
namespace Go.Proofs.Ytemhalnhbgkbcaa.V
open Go.RowKit Go.Proofs.YtemhalnhbgkbcaaW.PrintWords Go.Proofs.YtemhalnhbgkbcaaW.PrintLast Go.Proofs.YtemhalnhbgkbcaaW.PrintMore
attribute [local go_sem] max2_int min2_int max_two min_two max_three min_three max_four min_four   -- for this text's walks alone
set_option linter.unusedVariables false
set_option linter.unusedSimpArgs false

attribute [local go_sem high] eqA85
/-! ### block_Attr_78: function 78 -/
def block_Attr_78.l0 : Nat → List (S85) → List (S85) → Int → Int → Option (Bool)
  | 0, _, _, _, _ => none
  | k + 1, x0, x1, x12, x13 => if x13 < x12 then (if 0 ≤ x13 then (if x13 < (x0.length : Int) then (if x13 < (x1.length : Int) then (if (!((((rd_T85 x0 x13).f0).toList) == (((rd_T85 x1 x13).f0).toList)) || (!((((rd_T85 x0 x13).f1).toList) == (((rd_T85 x1 x13).f1).toList)))) = true then (some false) else (block_Attr_78.l0 k x0 x1 x12 (wrap64 (x13 + 1)))) else (none)) else (none)) else (none)) else (some true)
def block_Attr_78.f (k : Nat) (l0 : List (S85)) (l1 : List (S85)) : Option (Bool) := if (l0.length : Int) = (l1.length : Int) then (block_Attr_78.l0 k l0 l1 (l0.length : Int) 0) else (some false)
theorem block_Attr_78.mono_l : ∀ k, (∀ y0 y1 y2 y3, LeO (block_Attr_78.l0 k y0 y1 y2 y3) (block_Attr_78.l0 (k + 1) y0 y1 y2 y3))
  | 0 => fun _ _ _ _ r h => by simp [block_Attr_78.l0] at h
  | k + 1 => by
    have ih0 := block_Attr_78.mono_l k
    · intro y0 y1 y2 y3
      unfold block_Attr_78.l0
      repeat' first
      | (with_reducible exact ih0 _ _ _ _)
      | (with_reducible exact LeO.refl _)
      | (with_reducible exact LeO.none _)
      | (with_reducible refine LeO.ite ?_ ?_)
      | (with_reducible refine LeO.bind ?_ (fun _ => ?_))
      | exact ih0 _ _ _ _
      | exact LeO.none _
      | refine LeO.ite ?_ ?_
      | refine LeO.bind ?_ (fun _ => ?_)
theorem block_Attr_78.mono : ∀ a0 a1 k, LeO (block_Attr_78.f k a0 a1) (block_Attr_78.f (k + 1) a0 a1) := by
  intro a0 a1 k
  have ih0 := block_Attr_78.mono_l k
  unfold block_Attr_78.f
  repeat' first
      | (with_reducible exact ih0 _ _ _ _)
      | (with_reducible exact LeO.refl _)
      | (with_reducible exact LeO.none _)
      | (with_reducible refine LeO.ite ?_ ?_)
      | (with_reducible refine LeO.bind ?_ (fun _ => ?_))
      | exact ih0 _ _ _ _
      | exact LeO.none _
      | refine LeO.ite ?_ ?_
      | refine LeO.bind ?_ (fun _ => ?_)
set_option maxHeartbeats 8000000 in
set_option maxRecDepth 100000 in
theorem block_Attr_78.calls (k : Nat) (A0 : Option Addr) (c0 : Nat) (l0 : List (S85)) (A1 : Option Addr) (c1 : Nat) (l1 : List (S85)) (r : Bool) (w : World) (hr0 : Kd.C k85 w A0 l0.length l0) (hc0 : l0.length ≤ c0) (hr1 : Kd.C k85 w A1 l1.length l1) (hc1 : l1.length ≤ c1) (h : block_Attr_78.f k l0 l1 = some r) :
    Calls Try.prog 78 #[.slice A0 l0.length c0, .slice A1 l1.length c1] w fun e w' => e = .returned (.bool r) ∧ Drawn0 w w' := by
  have hu85 := Try.underlying85
  have HR0 := Aside0.mk hr0
  have HC0 := Aside0.mk hc0
  clear hr0 hc0
  have HR1 := Aside0.mk hr1
  have HC1 := Aside0.mk hc1
  clear hr1 hc1
  have H : (if (l0.length : Int) = (l1.length : Int) then (block_Attr_78.l0 k l0 l1 (l0.length : Int) 0) else (some false)) = some r := h
  clear h
  by_cases c3 : (l0.length : Int) = (l1.length : Int)
  · rw [if_pos c3] at H
    have c3b0 : ((l0.length : Int) == (l1.length : Int)) = true := beq_iff_eq.mpr c3
    have c3b1 : ((l0.length : Int) != (l1.length : Int)) = false := bne_eq_false_iff_eq.mpr c3
    have c3b2 : (l0.length == l1.length) = true := by first | simpa using c3 | (simp at c3 ⊢; omega)
    clear c3
    have H' := Aside0.mk H
    clear H
    go_enter Try.func78, Try.ntmps78
    go_wp2
    repeat (go_quiet (fail); try go_wp2)
    go_loopg [13] k (fun kq v13 w' => ∃ (x13_1 : Int), v13 = .int .i64 x13_1 ∧ Aside0 (block_Attr_78.l0 kq l0 l1 (l0.length : Int) x13_1 = some r) ∧ Aside0 (kq ≤ k) ∧ Drawn0 w w')
    case atStart => exact ⟨(0), (by first | rfl | (simp; done) | (simp [*]; done)), H', ⟨Nat.le_refl _⟩, by repeat (first | exact Drawn0.refl _ | apply Drawn0.step)⟩
    case round =>
      clear H'
      try clear c1
      try clear p2
      try clear c3
      try clear c3b0
      try clear c3b1
      try clear c3b2
      obtain ⟨x13_1, rfl, HA, HK1, ⟨m1, rfl⟩⟩ := hrel
      cases gk with
      | zero => exact absurd HA.out (by simp [block_Attr_78.l0])
      | succ k1 =>
        have H := HA.out
        clear HA
        simp only [block_Attr_78.l0] at H
        by_cases c4 : x13_1 < (l0.length : Int)
        · rw [if_pos c4] at H
          have c4b0 : decide (x13_1 < (l0.length : Int)) = true := decide_eq_true c4
          clear c4
          by_cases c5 : 0 ≤ x13_1
          · rw [if_pos c5] at H
            have c5b0 : decide (0 ≤ x13_1) = true := decide_eq_true c5
            clear c5
            by_cases c6 : x13_1 < (l0.length : Int)
            · rw [if_pos c6] at H
              have c6b0 : decide (x13_1 < (l0.length : Int)) = true := decide_eq_true c6
              clear c6
              by_cases c7 : x13_1 < (l1.length : Int)
              · rw [if_pos c7] at H
                have c7b0 : decide (x13_1 < (l1.length : Int)) = true := decide_eq_true c7
                clear c7
                by_cases c8 : (!((((rd_T85 l0 x13_1).f0).toList) == (((rd_T85 l1 x13_1).f0).toList)) || (!((((rd_T85 l0 x13_1).f1).toList) == (((rd_T85 l1 x13_1).f1).toList)))) = true
                · rw [if_pos c8] at H
                  have c8b0 : (!((((rd_T85 l0 x13_1).f0).toList) == (((rd_T85 l1 x13_1).f0).toList)) || (!((((rd_T85 l0 x13_1).f1).toList) == (((rd_T85 l1 x13_1).f1).toList)))) = true := c8
                  clear c8
                  obtain rfl := Option.some.inj H
                  have p78101 : 0 ≤ (x13_1 : Int) := of_decide_eq_true (by first | (with_reducible assumption) | assumption)
                  have q78101 : x13_1 < (l0.length : Int) := of_decide_eq_true (by first | (with_reducible assumption) | assumption)
                  obtain ⟨ad78101, e78101, hx78101_0, hx78101_1⟩ := at_T85 HR0.out x13_1 p78101 q78101
                  cases e78101
                  replace p78101 := eq_true p78101
                  replace q78101 := eq_true q78101
                  have p78102 : 0 ≤ (x13_1 : Int) := of_decide_eq_true (by first | (with_reducible assumption) | assumption)
                  have q78102 : x13_1 < (l1.length : Int) := of_decide_eq_true (by first | (with_reducible assumption) | assumption)
                  obtain ⟨ad78102, e78102, hx78102_0, hx78102_1⟩ := at_T85 HR1.out x13_1 p78102 q78102
                  cases e78102
                  replace p78102 := eq_true p78102
                  replace q78102 := eq_true q78102
                  go_wp2
                  repeat (go_quiet (fail); try go_wp2)
                  go_ret
                  exact ⟨by first | rfl | (simp; done) | (simp [*]; done), by repeat (first | exact Drawn0.refl _ | apply Drawn0.step)⟩
                · rw [if_neg c8] at H
                  have c8b0 : (!((((rd_T85 l0 x13_1).f0).toList) == (((rd_T85 l1 x13_1).f0).toList)) || (!((((rd_T85 l0 x13_1).f1).toList) == (((rd_T85 l1 x13_1).f1).toList)))) = false := by simpa using c8
                  clear c8
                  have H' := Aside0.mk H
                  clear H
                  have p78101 : 0 ≤ (x13_1 : Int) := of_decide_eq_true (by first | (with_reducible assumption) | assumption)
                  have q78101 : x13_1 < (l0.length : Int) := of_decide_eq_true (by first | (with_reducible assumption) | assumption)
                  obtain ⟨ad78101, e78101, hx78101_0, hx78101_1⟩ := at_T85 HR0.out x13_1 p78101 q78101
                  cases e78101
                  replace p78101 := eq_true p78101
                  replace q78101 := eq_true q78101
                  have p78102 : 0 ≤ (x13_1 : Int) := of_decide_eq_true (by first | (with_reducible assumption) | assumption)
                  have q78102 : x13_1 < (l1.length : Int) := of_decide_eq_true (by first | (with_reducible assumption) | assumption)
                  obtain ⟨ad78102, e78102, hx78102_0, hx78102_1⟩ := at_T85 HR1.out x13_1 p78102 q78102
                  cases e78102
                  replace p78102 := eq_true p78102
                  replace q78102 := eq_true q78102
                  go_wp2
                  repeat (go_quiet (fail); try go_wp2)
                  go_roundg k1
                  case measure => have := HK1.out; omega
                  case rel => exact ⟨(wrap64 (x13_1 + 1)), (by first | rfl | (simp; done) | (simp [*]; done)), H', ⟨by have := HK1.out; omega⟩, by repeat (first | exact Drawn0.refl _ | apply Drawn0.step)⟩
              · rw [if_neg c7] at H
                exact absurd H (by simp)
            · rw [if_neg c6] at H
              exact absurd H (by simp)
          · rw [if_neg c5] at H
            exact absurd H (by simp)
        · rw [if_neg c4] at H
          have c4b0 : decide (x13_1 < (l0.length : Int)) = false := decide_eq_false c4
          clear c4
          obtain rfl := Option.some.inj H
          go_wp2
          repeat (go_quiet (fail); try go_wp2)
          go_ret
          exact ⟨by first | rfl | (simp; done) | (simp [*]; done), by repeat (first | exact Drawn0.refl _ | apply Drawn0.step)⟩
  · rw [if_neg c3] at H
    have c3b0 : ((l0.length : Int) == (l1.length : Int)) = false := beq_eq_false_iff_ne.mpr c3
    have c3b1 : ((l0.length : Int) != (l1.length : Int)) = true := bne_iff_ne.mpr c3
    have c3b2 : (l0.length == l1.length) = false := by first | simpa using c3 | (simp at c3 ⊢; omega)
    obtain rfl := Option.some.inj H
    go_enter Try.func78, Try.ntmps78
    go_wp2
    repeat (go_quiet (fail); try go_wp2)
    go_ret
    exact ⟨by first | rfl | (simp; done) | (simp [*]; done), by repeat (first | exact Drawn0.refl _ | apply Drawn0.step)⟩
end Go.Proofs.Ytemhalnhbgkbcaa.V
end

-- VFSlicesEqualUint8Uint8
section
-- PRINTED by print.py (a twelfth state) out of the translation. Not trusted: Lean checks it.
namespace Go.Proofs.Ytemhalnhbgkbcaa.V
open Go.RowKit Go.Proofs.YtemhalnhbgkbcaaW.PrintWords Go.Proofs.YtemhalnhbgkbcaaW.PrintLast Go.Proofs.YtemhalnhbgkbcaaW.PrintMore
attribute [local go_sem] max2_int min2_int max_two min_two max_three min_three max_four min_four   -- for this text's walks alone
set_option linter.unusedVariables false
set_option linter.unusedSimpArgs false

/-! ### slices_Equal_uint8_uint8: function 77 -/
def slices_Equal_uint8_uint8.l0 : Nat → List Int → List Int → Int → Int → Option (Bool)
  | 0, _, _, _, _ => none
  | k + 1, x0, x1, x12, x13 => if x13 < x12 then (if 0 ≤ x13 then (if x13 < (x0.length : Int) then (if x13 < (x1.length : Int) then (if (rd x0 x13) = (rd x1 x13) then (slices_Equal_uint8_uint8.l0 k x0 x1 x12 (wrap64 (x13 + 1))) else (some false)) else (none)) else (none)) else (none)) else (some true)
def slices_Equal_uint8_uint8.f (k : Nat) (l0 : List Int) (l1 : List Int) : Option (Bool) := if (l0.length : Int) = (l1.length : Int) then (slices_Equal_uint8_uint8.l0 k l0 l1 (l0.length : Int) 0) else (some false)
theorem slices_Equal_uint8_uint8.mono_l : ∀ k, (∀ y0 y1 y2 y3, LeO (slices_Equal_uint8_uint8.l0 k y0 y1 y2 y3) (slices_Equal_uint8_uint8.l0 (k + 1) y0 y1 y2 y3))
  | 0 => fun _ _ _ _ r h => by simp [slices_Equal_uint8_uint8.l0] at h
  | k + 1 => by
    have ih0 := slices_Equal_uint8_uint8.mono_l k
    · intro y0 y1 y2 y3
      unfold slices_Equal_uint8_uint8.l0
      repeat' first
      | (with_reducible exact ih0 _ _ _ _)
      | (with_reducible exact LeO.refl _)
      | (with_reducible exact LeO.none _)
      | (with_reducible refine LeO.ite ?_ ?_)
      | (with_reducible refine LeO.bind ?_ (fun _ => ?_))
      | exact ih0 _ _ _ _
      | exact LeO.none _
      | refine LeO.ite ?_ ?_
      | refine LeO.bind ?_ (fun _ => ?_)
theorem slices_Equal_uint8_uint8.mono : ∀ a0 a1 k, LeO (slices_Equal_uint8_uint8.f k a0 a1) (slices_Equal_uint8_uint8.f (k + 1) a0 a1) := by
  intro a0 a1 k
  have ih0 := slices_Equal_uint8_uint8.mono_l k
  unfold slices_Equal_uint8_uint8.f
  repeat' first
      | (with_reducible exact ih0 _ _ _ _)
      | (with_reducible exact LeO.refl _)
      | (with_reducible exact LeO.none _)
      | (with_reducible refine LeO.ite ?_ ?_)
      | (with_reducible refine LeO.bind ?_ (fun _ => ?_))
      | exact ih0 _ _ _ _
      | exact LeO.none _
      | refine LeO.ite ?_ ?_
      | refine LeO.bind ?_ (fun _ => ?_)
set_option maxHeartbeats 8000000 in
set_option maxRecDepth 100000 in
theorem slices_Equal_uint8_uint8.calls (k : Nat) (A0 : Option Addr) (c0 : Nat) (l0 : List Int) (A1 : Option Addr) (c1 : Nat) (l1 : List Int) (r : Bool) (w : World) (hr0 : Kd.C (Kd.int .u8) w A0 l0.length l0) (hc0 : l0.length ≤ c0) (hr1 : Kd.C (Kd.int .u8) w A1 l1.length l1) (hc1 : l1.length ≤ c1) (h : slices_Equal_uint8_uint8.f k l0 l1 = some r) :
    Calls Try.prog 77 #[.slice A0 l0.length c0, .slice A1 l1.length c1] w fun e w' => e = .returned (.bool r) ∧ Drawn0 w w' := by
  have HR0 := Aside0.mk hr0
  have HC0 := Aside0.mk hc0
  clear hr0 hc0
  have HR1 := Aside0.mk hr1
  have HC1 := Aside0.mk hc1
  clear hr1 hc1
  have H : (if (l0.length : Int) = (l1.length : Int) then (slices_Equal_uint8_uint8.l0 k l0 l1 (l0.length : Int) 0) else (some false)) = some r := h
  clear h
  by_cases c3 : (l0.length : Int) = (l1.length : Int)
  · rw [if_pos c3] at H
    have c3b0 : ((l0.length : Int) == (l1.length : Int)) = true := beq_iff_eq.mpr c3
    have c3b1 : ((l0.length : Int) != (l1.length : Int)) = false := bne_eq_false_iff_eq.mpr c3
    have c3b2 : (l0.length == l1.length) = true := by first | simpa using c3 | (simp at c3 ⊢; omega)
    clear c3
    have H' := Aside0.mk H
    clear H
    go_enter Try.func77, Try.ntmps77
    go_wp2
    repeat (go_quiet (fail); try go_wp2)
    go_loopg [13] k (fun kq v13 w' => ∃ (x13_1 : Int), v13 = .int .i64 x13_1 ∧ Aside0 (slices_Equal_uint8_uint8.l0 kq l0 l1 (l0.length : Int) x13_1 = some r) ∧ Aside0 (kq ≤ k) ∧ Drawn0 w w')
    case atStart => exact ⟨(0), (by first | rfl | (simp; done) | (simp [*]; done)), H', ⟨Nat.le_refl _⟩, by repeat (first | exact Drawn0.refl _ | apply Drawn0.step)⟩
    case round =>
      clear H'
      try clear c1
      try clear p2
      try clear c3
      try clear c3b0
      try clear c3b1
      try clear c3b2
      obtain ⟨x13_1, rfl, HA, HK1, ⟨m1, rfl⟩⟩ := hrel
      cases gk with
      | zero => exact absurd HA.out (by simp [slices_Equal_uint8_uint8.l0])
      | succ k1 =>
        have H := HA.out
        clear HA
        simp only [slices_Equal_uint8_uint8.l0] at H
        by_cases c4 : x13_1 < (l0.length : Int)
        · rw [if_pos c4] at H
          have c4b0 : decide (x13_1 < (l0.length : Int)) = true := decide_eq_true c4
          clear c4
          by_cases c5 : 0 ≤ x13_1
          · rw [if_pos c5] at H
            have c5b0 : decide (0 ≤ x13_1) = true := decide_eq_true c5
            clear c5
            by_cases c6 : x13_1 < (l0.length : Int)
            · rw [if_pos c6] at H
              have c6b0 : decide (x13_1 < (l0.length : Int)) = true := decide_eq_true c6
              clear c6
              by_cases c7 : x13_1 < (l1.length : Int)
              · rw [if_pos c7] at H
                have c7b0 : decide (x13_1 < (l1.length : Int)) = true := decide_eq_true c7
                clear c7
                by_cases c8 : (rd l0 x13_1) = (rd l1 x13_1)
                · rw [if_pos c8] at H
                  have c8b0 : ((rd l0 x13_1) == (rd l1 x13_1)) = true := beq_iff_eq.mpr c8
                  have c8b1 : ((rd l0 x13_1) != (rd l1 x13_1)) = false := bne_eq_false_iff_eq.mpr c8
                  clear c8
                  have H' := Aside0.mk H
                  clear H
                  have p77101 : 0 ≤ (x13_1 : Int) := of_decide_eq_true (by first | (with_reducible assumption) | assumption)
                  have q77101 : x13_1 < (l0.length : Int) := of_decide_eq_true (by first | (with_reducible assumption) | assumption)
                  obtain ⟨ad77101, e77101, hx77101_0⟩ := Kd.at_int HR0.out x13_1 p77101 q77101
                  cases e77101
                  replace p77101 := eq_true p77101
                  replace q77101 := eq_true q77101
                  have p77102 : 0 ≤ (x13_1 : Int) := of_decide_eq_true (by first | (with_reducible assumption) | assumption)
                  have q77102 : x13_1 < (l1.length : Int) := of_decide_eq_true (by first | (with_reducible assumption) | assumption)
                  obtain ⟨ad77102, e77102, hx77102_0⟩ := Kd.at_int HR1.out x13_1 p77102 q77102
                  cases e77102
                  replace p77102 := eq_true p77102
                  replace q77102 := eq_true q77102
                  go_wp2
                  repeat (go_quiet (fail); try go_wp2)
                  go_roundg k1
                  case measure => have := HK1.out; omega
                  case rel => exact ⟨(wrap64 (x13_1 + 1)), (by first | rfl | (simp; done) | (simp [*]; done)), H', ⟨by have := HK1.out; omega⟩, by repeat (first | exact Drawn0.refl _ | apply Drawn0.step)⟩
                · rw [if_neg c8] at H
                  have c8b0 : ((rd l0 x13_1) == (rd l1 x13_1)) = false := beq_eq_false_iff_ne.mpr c8
                  have c8b1 : ((rd l0 x13_1) != (rd l1 x13_1)) = true := bne_iff_ne.mpr c8
                  obtain rfl := Option.some.inj H
                  have p77101 : 0 ≤ (x13_1 : Int) := of_decide_eq_true (by first | (with_reducible assumption) | assumption)
                  have q77101 : x13_1 < (l0.length : Int) := of_decide_eq_true (by first | (with_reducible assumption) | assumption)
                  obtain ⟨ad77101, e77101, hx77101_0⟩ := Kd.at_int HR0.out x13_1 p77101 q77101
                  cases e77101
                  replace p77101 := eq_true p77101
                  replace q77101 := eq_true q77101
                  have p77102 : 0 ≤ (x13_1 : Int) := of_decide_eq_true (by first | (with_reducible assumption) | assumption)
                  have q77102 : x13_1 < (l1.length : Int) := of_decide_eq_true (by first | (with_reducible assumption) | assumption)
                  obtain ⟨ad77102, e77102, hx77102_0⟩ := Kd.at_int HR1.out x13_1 p77102 q77102
                  cases e77102
                  replace p77102 := eq_true p77102
                  replace q77102 := eq_true q77102
                  go_wp2
                  repeat (go_quiet (fail); try go_wp2)
                  go_ret
                  exact ⟨by first | rfl | (simp; done) | (simp [*]; done), by repeat (first | exact Drawn0.refl _ | apply Drawn0.step)⟩
              · rw [if_neg c7] at H
                exact absurd H (by simp)
            · rw [if_neg c6] at H
              exact absurd H (by simp)
          · rw [if_neg c5] at H
            exact absurd H (by simp)
        · rw [if_neg c4] at H
          have c4b0 : decide (x13_1 < (l0.length : Int)) = false := decide_eq_false c4
          clear c4
          obtain rfl := Option.some.inj H
          go_wp2
          repeat (go_quiet (fail); try go_wp2)
          go_ret
          exact ⟨by first | rfl | (simp; done) | (simp [*]; done), by repeat (first | exact Drawn0.refl _ | apply Drawn0.step)⟩
  · rw [if_neg c3] at H
    have c3b0 : ((l0.length : Int) == (l1.length : Int)) = false := beq_eq_false_iff_ne.mpr c3
    have c3b1 : ((l0.length : Int) != (l1.length : Int)) = true := bne_iff_ne.mpr c3
    have c3b2 : (l0.length == l1.length) = false := by first | simpa using c3 | (simp at c3 ⊢; omega)
    obtain rfl := Option.some.inj H
    go_enter Try.func77, Try.ntmps77
    go_wp2
    repeat (go_quiet (fail); try go_wp2)
    go_ret
    exact ⟨by first | rfl | (simp; done) | (simp [*]; done), by repeat (first | exact Drawn0.refl _ | apply Drawn0.step)⟩
end Go.Proofs.Ytemhalnhbgkbcaa.V
end

-- VFVirgateref03Put
section
-- PRINTED by print.py (a twelfth state) out of the translation. Not trusted: Lean checks it.
namespace Go.Proofs.Ytemhalnhbgkbcaa.V
open Go.RowKit Go.Proofs.YtemhalnhbgkbcaaW.PrintWords Go.Proofs.YtemhalnhbgkbcaaW.PrintLast Go.Proofs.YtemhalnhbgkbcaaW.PrintMore
attribute [local go_sem] max2_int min2_int max_two min_two max_three min_three max_four min_four   -- for this text's walks alone
set_option linter.unusedVariables false
set_option linter.unusedSimpArgs false

/-! ### virgateref03_Put: function 75 -/
mutual
def virgateref03_Put.j0 : Nat → Int → Int → Bool → Option (List Int)
  | 0, _, _, _ => none
  | k + 1, x0, x1, x12 => if x12 = true then (some ([] : List Int)) else (if 0 ≤ x1 then (if (x1 : Int).toNat ≤ 281474976710656 then (virgateref03_Put.l0 k x0 (List.replicate (x1 : Int).toNat 0) (wrap64 (x1 - 1))) else (none)) else (none))
def virgateref03_Put.l0 : Nat → Int → List Int → Int → Option (List Int)
  | 0, _, _, _ => none
  | k + 1, x0, x5, x6 => if x6 ≥ 0 then (if 0 ≤ x6 then (if x6 < (x5.length : Int) then (virgateref03_Put.l0 k (IntKind.u64.wrap (Int.tdiv x0 256)) (x5.set (x6 : Int).toNat ((Int.tmod x0 256) % 256)) (wrap64 (x6 - 1))) else (none)) else (none)) else (some x5)
end
def virgateref03_Put.f (k : Nat) (a0 : Int) (a1 : Int) : Option (List Int) := if a1 < 1 then (virgateref03_Put.j0 k a0 a1 true) else (virgateref03_Put.j0 k a0 a1 (decide (a1 > 8)))
theorem virgateref03_Put.mono_l : ∀ k, (∀ y0 y1 y2, LeO (virgateref03_Put.j0 k y0 y1 y2) (virgateref03_Put.j0 (k + 1) y0 y1 y2)) ∧ (∀ y0 y1 y2, LeO (virgateref03_Put.l0 k y0 y1 y2) (virgateref03_Put.l0 (k + 1) y0 y1 y2))
  | 0 => ⟨fun _ _ _ r h => by simp [virgateref03_Put.j0] at h, fun _ _ _ r h => by simp [virgateref03_Put.l0] at h⟩
  | k + 1 => by
    obtain ⟨ih0, ih1⟩ := virgateref03_Put.mono_l k
    refine ⟨?_, ?_⟩
    · intro y0 y1 y2
      unfold virgateref03_Put.j0
      repeat' first
      | (with_reducible exact ih0 _ _ _)
      | (with_reducible exact ih1 _ _ _)
      | (with_reducible exact LeO.refl _)
      | (with_reducible exact LeO.none _)
      | (with_reducible refine LeO.ite ?_ ?_)
      | (with_reducible refine LeO.bind ?_ (fun _ => ?_))
      | exact ih0 _ _ _
      | exact ih1 _ _ _
      | exact LeO.none _
      | refine LeO.ite ?_ ?_
      | refine LeO.bind ?_ (fun _ => ?_)
    · intro y0 y1 y2
      unfold virgateref03_Put.l0
      repeat' first
      | (with_reducible exact ih0 _ _ _)
      | (with_reducible exact ih1 _ _ _)
      | (with_reducible exact LeO.refl _)
      | (with_reducible exact LeO.none _)
      | (with_reducible refine LeO.ite ?_ ?_)
      | (with_reducible refine LeO.bind ?_ (fun _ => ?_))
      | exact ih0 _ _ _
      | exact ih1 _ _ _
      | exact LeO.none _
      | refine LeO.ite ?_ ?_
      | refine LeO.bind ?_ (fun _ => ?_)
theorem virgateref03_Put.mono : ∀ a0 a1 k, LeO (virgateref03_Put.f k a0 a1) (virgateref03_Put.f (k + 1) a0 a1) := by
  intro a0 a1 k
  obtain ⟨ih0, ih1⟩ := virgateref03_Put.mono_l k
  unfold virgateref03_Put.f
  repeat' first
      | (with_reducible exact ih0 _ _ _)
      | (with_reducible exact ih1 _ _ _)
      | (with_reducible exact LeO.refl _)
      | (with_reducible exact LeO.none _)
      | (with_reducible refine LeO.ite ?_ ?_)
      | (with_reducible refine LeO.bind ?_ (fun _ => ?_))
      | exact ih0 _ _ _
      | exact ih1 _ _ _
      | exact LeO.none _
      | refine LeO.ite ?_ ?_
      | refine LeO.bind ?_ (fun _ => ?_)
set_option maxHeartbeats 8000000 in
set_option maxRecDepth 100000 in
theorem virgateref03_Put.calls (k : Nat) (a0 : Int) (a1 : Int) (r : List Int) (w : World) (h : virgateref03_Put.f k a0 a1 = some r) :
    Calls Try.prog 75 #[.int .u64 a0, .int .i64 a1] w fun e w' => ∃ v0_ : Value, e = .returned (v0_) ∧ Kd.R (Kd.int .u8) 5 w' w.heap.size (fun _ => True) v0_ r ∧ Below w.heap.size w w' := by
  have HB := Aside0.mk (Below.refl w.heap.size w)
  have H : (if a1 < 1 then (virgateref03_Put.j0 k a0 a1 true) else (virgateref03_Put.j0 k a0 a1 (decide (a1 > 8)))) = some r := h
  clear h
  have HC3 := Aside0.mk H
  clear H
  go_enter Try.func75, Try.ntmps75
  go_upto_region 1 with (fail)
  go_cut [12] (fun v12 wc => ∃ (kq : Nat) (x12_2 : Bool), v12 = .bool x12_2 ∧ Aside0 (virgateref03_Put.j0 kq a0 a1 x12_2 = some r) ∧ Aside0 (kq ≤ k) ∧ Aside0 (Below w.heap.size w wc))
  case first =>
    have H := HC3.out
    clear HC3
    by_cases c4 : a1 < 1
    · rw [if_pos c4] at H
      have c4b0 : decide (a1 < 1) = true := decide_eq_true c4
      clear c4
      (first | rw [c4b0] | (simp only [i64_w, i32_w]; rw [c4b0]) | skip)
      have H' := Aside0.mk H
      clear H
      go_wp2
      go_meet
      case rel => exact ⟨_, (true), (by first | rfl | (simp; done) | (simp [*]; done)), H', ⟨by first | omega | exact Nat.le_refl _⟩, ⟨by repeat (first | (with_reducible first | exact HB.out | apply below_alloc | apply pw_below_drewN | apply below_drew1) | exact HB.out)⟩⟩
    · rw [if_neg c4] at H
      have c4b0 : decide (a1 < 1) = false := decide_eq_false c4
      clear c4
      (first | rw [c4b0] | (simp only [i64_w, i32_w]; rw [c4b0]) | skip)
      have H' := Aside0.mk H
      clear H
      go_wp2
      go_meet
      case rel => exact ⟨_, (decide (a1 > 8)), (by first | rfl | (simp; done) | (simp [*]; done)), H', ⟨by first | omega | exact Nat.le_refl _⟩, ⟨by repeat (first | (with_reducible first | exact HB.out | apply below_alloc | apply pw_below_drewN | apply below_drew1) | exact HB.out)⟩⟩
  case rest =>
    clear HC3
    try clear p2
    try clear c4
    try clear c4b0
    obtain ⟨kq, x12_2, rfl, HA, HJ2, HB⟩ := hcut
    cases kq with
    | zero => exact absurd HA.out (by simp [virgateref03_Put.j0])
    | succ kj2 =>
      have H := HA.out
      clear HA
      simp only [virgateref03_Put.j0] at H
      by_cases c5 : x12_2 = true
      · subst c5
        have H1 : (some ([] : List Int)) = some r := by rw [if_pos rfl] at H; exact H
        clear H
        have H := H1
        clear H1
        obtain rfl := Option.some.inj H
        go_wp2
        go_ret
        exact ⟨_, by first | rfl | (simp [errW_none, errW_some] <;> rfl) | (simp [*, errW_none, errW_some] <;> rfl), by first | exact Kd.R_nil _ _ _ _ _ | exact Kd.N_nil _ _ _ _ _ | exact Kd.V_nil _ _ _ _ _ | exact Kd.Q_nil _ _ _ _ _ | exact Kd.S_nil _ _ _ _ _, by repeat (first | (with_reducible first | exact HB.out | apply below_alloc | apply pw_below_drewN | apply below_drew1) | exact HB.out)⟩
      · replace c5 := Bool.eq_false_iff.mpr c5
        subst c5
        have H1 : (if 0 ≤ a1 then (if (a1 : Int).toNat ≤ 281474976710656 then (virgateref03_Put.l0 kj2 a0 (List.replicate (a1 : Int).toNat 0) (wrap64 (a1 - 1))) else (none)) else (none)) = some r := by rw [if_neg (show ¬ (false = true) by decide)] at H; exact H
        clear H
        have H := H1
        clear H1
        by_cases c6 : 0 ≤ a1
        · rw [if_pos c6] at H
          have c6b0 := eq_true c6
          have c6b1 : decide (0 ≤ a1) = true := decide_eq_true c6
          clear c6
          by_cases c7 : (a1 : Int).toNat ≤ 281474976710656
          · rw [if_pos c7] at H
            have c7b0 := eq_true c7
            have c7b1 : decide ((a1 : Int).toNat ≤ 281474976710656) = true := decide_eq_true c7
            clear c7
            obtain ⟨y75101, hy75101⟩ : ∃ y_ : List Int, y_ = (List.replicate (a1 : Int).toNat 0) := ⟨_, rfl⟩
            replace H : (virgateref03_Put.l0 kj2 a0 y75101 (wrap64 (a1 - 1))) = some r := by first | (rw [hy75101]; with_reducible exact H) | (have H2_ := (Option.bind_some _ _).symm.trans H; rw [hy75101]; with_reducible exact H2_) | (have H2_ := (Option.bind_some _ _).symm.trans H; with_reducible exact H2_) | with_reducible exact H | (rw [hy75101]; exact H) | exact H
            have Ny75101 := Aside0.mk hy75101
            clear hy75101
            have H' := Aside0.mk H
            clear H
            go_wp2_with (first | ((with_reducible refine gate_dst (N := 14) rfl ?_); refine Kd.R_make (Kd.int .u8) _ 5 rfl (N := 14) rfl 48 _ _ rfl a1 rfl rfl Try.underlying48 (.int .u8 0) 1 info5 rfl (by decide) (by omega) 0 (ok := fun _ => True) (okp := fun _ => True) rfl (fun _ hk => hk) trivial (of_decide_eq_true (by first | (with_reducible assumption) | assumption)) (Nat.le_trans (Nat.mul_le_mul_right _ (of_decide_eq_true (by first | (with_reducible assumption) | assumption) : a1.toNat ≤ 281474976710656)) (by omega)) (Below.refl _ _) (Nat.le_refl _) ?_; intro v75102 w8 ho9 hb hg_ hnew_; clear hg_ hnew_; (first | rw [← Ny75101.out] at ho9 | (simp only [Int.reduceToNat] at ho9; rw [← Ny75101.out] at ho9)); have n0_ := Aside0.mk (Kd.R_lower ho9 (below_size (by repeat (first | (with_reducible first | exact HB.out | apply below_alloc | apply pw_below_drewN | apply below_drew1) | exact HB.out)))); have n1_ := Aside0.mk (below_step (by repeat (first | (with_reducible first | exact HB.out | apply below_alloc | apply pw_below_drewN | apply below_drew1) | exact HB.out)) hb); clear HB; have HO75103 := n0_; have HB := n1_; clear n0_ n1_; clear hb ho9))
            go_loopg [0, 6] kj2 (fun kq v0 v6 w' => ∃ (x0_2 : Int) (x5_2 : List Int) (x6_2 : Int), v0 = .int .u64 x0_2 ∧ v6 = .int .i64 x6_2 ∧ Aside0 (virgateref03_Put.l0 kq x0_2 x5_2 x6_2 = some r) ∧ Aside0 (kq ≤ kj2) ∧ Aside0 (Kd.R (Kd.int .u8) 5 w' w.heap.size (fun _ => True) v75102 x5_2) ∧ Aside0 (Below w.heap.size w w'))
            case atStart => exact ⟨(a0), (y75101), (wrap64 (a1 - 1)), (by first | rfl | (simp; done) | (simp [*]; done)), (by first | rfl | (simp; done) | (simp [*]; done)), H', ⟨Nat.le_refl _⟩, ⟨by (with_reducible repeat (first | apply Kd.R_alloc | apply Kd.R_drewN | apply Kd.R_drew)); exact HO75103.out⟩, ⟨by repeat (first | (with_reducible first | exact HB.out | apply below_alloc | apply pw_below_drewN | apply below_drew1) | exact HB.out)⟩⟩
            case round =>
              clear H'
              try clear p2
              try clear c4
              try clear c4b0
              try clear c5
              try clear c6
              try clear c6b0
              try clear c6b1
              try clear p6
              try clear c7
              try clear c7b0
              try clear c7b1
              try clear p2
              obtain ⟨x0_2, x5_2, x6_2, rfl, rfl, HA, HK2, HO_5, HB⟩ := hrel
              cases gk with
              | zero => exact absurd HA.out (by simp [virgateref03_Put.l0])
              | succ k2 =>
                have H := HA.out
                clear HA
                simp only [virgateref03_Put.l0] at H
                by_cases c10 : x6_2 ≥ 0
                · rw [if_pos c10] at H
                  have c10b0 : decide (0 ≤ x6_2) = true := decide_eq_true c10
                  clear c10
                  by_cases c11 : 0 ≤ x6_2
                  · rw [if_pos c11] at H
                    have c11b0 : decide (0 ≤ x6_2) = true := decide_eq_true c11
                    clear c11
                    by_cases c12 : x6_2 < (x5_2.length : Int)
                    · rw [if_pos c12] at H
                      have c12b0 : decide (x6_2 < (x5_2.length : Int)) = true := decide_eq_true c12
                      clear c12
                      obtain ⟨y75104, hy75104⟩ : ∃ y_ : List Int, y_ = (x5_2.set (x6_2 : Int).toNat ((Int.tmod x0_2 256) % 256)) := ⟨_, rfl⟩
                      replace H : (virgateref03_Put.l0 k2 (IntKind.u64.wrap (Int.tdiv x0_2 256)) y75104 (wrap64 (x6_2 - 1))) = some r := by first | (rw [hy75104]; with_reducible exact H) | (have H2_ := (Option.bind_some _ _).symm.trans H; rw [hy75104]; with_reducible exact H2_) | (have H2_ := (Option.bind_some _ _).symm.trans H; with_reducible exact H2_) | with_reducible exact H | (rw [hy75104]; exact H) | exact H
                      have Ny75104 := Aside0.mk hy75104
                      clear hy75104
                      have H' := Aside0.mk H
                      clear H
                      have p13 : 0 ≤ (x6_2 : Int) := of_decide_eq_true (by first | (with_reducible assumption) | assumption)
                      have q13 : (x6_2 : Int) < ((x5_2.length : Int) : Int) := of_decide_eq_true (by first | (with_reducible assumption) | assumption)
                      obtain ⟨go13, co13, eo13, gb13, gl13, cl13, HG13⟩ := Kd.R_form HO_5.out (by omega)
                      (first | cases eo13 | (injection eo13 with ea_ en_ ec_; (first | subst ea_ | (injection ea_ with ea_; subst ea_)); subst ec_; clear en_))
                      have GB13 := Aside0.mk gb13
                      have GG13 := Aside0.mk HG13
                      clear gb13 gl13 HG13
                      obtain ⟨hx13_0, hf13_0⟩ := Kd.R_celln 0 HO_5.out (x6_2 : Int) p13 q13
                      replace p13 := eq_true p13
                      replace q13 := eq_true q13
                      have HP14 := Kd.R_putg HO_5.out (x6_2 : Int) ((Int.tmod x0_2 256) % 256)
                      go_wp2_with (first | ((with_reducible refine gate_store (t := 5) (p := 26) rfl ?_); refine store_event (t := 5) (p := 26) (v := ?vo_w15) (w1 := (wr.setCell ⟨go13, (x6_2 : Int).toNat, none⟩ (.int .u8 ((Int.tmod x0_2 256) % 256)))) ?hg ?ho ?hn ?hr ?_; (case ho => rfl); (case hg => rfl); (case hn => rfl); (case hr => first | (go_simp; done) | (go_simp; rfl)); intro w15 hw; have hg : wr.grownBy w15 (some go13) := (by rw [hw]; exact HP14.2); have hp_ : Kd.R (Kd.int .u8) 5 w15 w.heap.size (fun _ => True) (.slice (some ⟨go13, 0, none⟩) x5_2.length co13) y75104 := (by rw [hw, Ny75104.out]; exact HP14.1); clear HP14; have n0_ := Aside0.mk (hp_); have n1_ := Aside0.mk ((by rw [hw]; exact below_set (HB.out) GB13.out : Below w.heap.size w w15)); clear HO_5; clear HB; have HO_5 := n0_; have HB := n1_; clear n0_ n1_; clear hg hw hp_))
                      go_roundg k2
                      case measure => have := HJ2.out; have := HK2.out; omega
                      case rel => exact ⟨(IntKind.u64.wrap (Int.tdiv x0_2 256)), (y75104), (wrap64 (x6_2 - 1)), (by first | rfl | (simp; done) | (simp [*]; done)), (by first | rfl | (simp; done) | (simp [*]; done)), H', ⟨by have := HJ2.out; have := HK2.out; omega⟩, ⟨by (with_reducible repeat (first | apply Kd.R_alloc | apply Kd.R_drewN | apply Kd.R_drew)); exact HO_5.out⟩, ⟨by repeat (first | (with_reducible first | exact HB.out | apply below_alloc | apply pw_below_drewN | apply below_drew1) | exact HB.out)⟩⟩
                    · rw [if_neg c12] at H
                      exact absurd H (by simp)
                  · rw [if_neg c11] at H
                    exact absurd H (by simp)
                · rw [if_neg c10] at H
                  have c10b0 : decide (0 ≤ x6_2) = false := decide_eq_false c10
                  clear c10
                  obtain rfl := Option.some.inj H
                  go_wp2
                  go_ret
                  exact ⟨_, by first | rfl | (simp [errW_none, errW_some] <;> rfl) | (simp [*, errW_none, errW_some] <;> rfl), by (with_reducible repeat (first | apply Kd.R_alloc | apply Kd.R_drewN | apply Kd.R_drew)); exact HO_5.out, by repeat (first | (with_reducible first | exact HB.out | apply below_alloc | apply pw_below_drewN | apply below_drew1) | exact HB.out)⟩
          · rw [if_neg c7] at H
            exact absurd H (by simp)
        · rw [if_neg c6] at H
          exact absurd H (by simp)
end Go.Proofs.Ytemhalnhbgkbcaa.V
end

-- VFVirgateref03Text
section
-- PRINTED by print.py (a twelfth state) out of the translation. Not trusted: Lean checks it.
namespace Go.Proofs.Ytemhalnhbgkbcaa.V
open Go.RowKit Go.Proofs.YtemhalnhbgkbcaaW.PrintWords Go.Proofs.YtemhalnhbgkbcaaW.PrintLast Go.Proofs.YtemhalnhbgkbcaaW.PrintMore
attribute [local go_sem] max2_int min2_int max_two min_two max_three min_three max_four min_four   -- for this text's walks alone
set_option linter.unusedVariables false
set_option linter.unusedSimpArgs false

/-! ### virgateref03_Text: function 76 -/
def virgateref03_Text.f (a0 : ByteArray) : Option (List Int) := (some (([((a0.size : Int)) % 256] : List Int) : List Int)).bind fun y76101 => (if y76101.length + a0.size < 140737488355328 then (some (y76101 ++ bytesOf a0)) else (none))
set_option maxHeartbeats 8000000 in
set_option maxRecDepth 100000 in
theorem virgateref03_Text.calls (a0 : ByteArray) (r : List Int) (w : World) (h : virgateref03_Text.f a0 = some r) :
    Calls Try.prog 76 #[.string a0] w fun e w' => ∃ v0_ : Value, e = .returned (v0_) ∧ Kd.R (Kd.int .u8) 5 w' w.heap.size (fun _ => True) v0_ r ∧ Below w.heap.size w w' := by
  have HB := Aside0.mk (Below.refl w.heap.size w)
  have H : ((some (([((a0.size : Int)) % 256] : List Int) : List Int)).bind fun y76101 => (if y76101.length + a0.size < 140737488355328 then (some (y76101 ++ bytesOf a0)) else (none))) = some r := h
  clear h
  obtain ⟨y76101, hy76101⟩ : ∃ y_ : List Int, y_ = (([((a0.size : Int)) % 256] : List Int)) := ⟨_, rfl⟩
  replace H : (if y76101.length + a0.size < 140737488355328 then (some (y76101 ++ bytesOf a0)) else (none)) = some r := by first | (rw [hy76101]; with_reducible exact H) | (have H2_ := (Option.bind_some _ _).symm.trans H; rw [hy76101]; with_reducible exact H2_) | (have H2_ := (Option.bind_some _ _).symm.trans H; with_reducible exact H2_) | with_reducible exact H | (rw [hy76101]; exact H) | exact H
  have Ny76101 := Aside0.mk hy76101
  clear hy76101
  by_cases c2 : y76101.length + a0.size < 140737488355328
  · rw [if_pos c2] at H
    have LMc2 := Aside0.mk c2
    clear c2
    obtain ⟨y76104, hy76104⟩ : ∃ y_ : List Int, y_ = (y76101 ++ bytesOf a0) := ⟨_, rfl⟩
    replace H : (some y76104) = some r := by first | (rw [hy76104]; with_reducible exact H) | (have H2_ := (Option.bind_some _ _).symm.trans H; rw [hy76104]; with_reducible exact H2_) | (have H2_ := (Option.bind_some _ _).symm.trans H; with_reducible exact H2_) | with_reducible exact H | (rw [hy76104]; exact H) | exact H
    have Ny76104 := Aside0.mk hy76104
    clear hy76104
    obtain rfl := Option.some.inj H
    go_enter Try.func76, Try.ntmps76
    go_wp2_with (first | ((with_reducible refine gate_dst (N := 6) rfl ?_); refine Kd.R_lit (Kd.int .u8) _ 5 ?hg (N := 6) ?hd (xs := ([((a0.size : Int)) % 256] : List Int)) (inner := [.int .u8 (((a0.size : Int)) % 256)]) (ok := fun _ => True) (okp := fun _ => True) ?hr ?hp (fun _ hk => hk) trivial (Below.refl _ _) (Nat.le_refl _) (by simp) ?_; (case hd => rfl); (case hg => rfl); (case hr => first | (go_simp; done) | (go_simp; rfl)); (case hp => exact (Reps.one (show Kd.M (Kd.int .u8) _ _ _ (((a0.size : Int)) % 256) [.int .u8 (((a0.size : Int)) % 256)] from rfl) (Reps.none _ _))); intro v76102 w3 ho4 hb hg_ hnew_; clear hg_ hnew_; (first | rw [← Ny76101.out] at ho4 | (simp only [Int.reduceToNat] at ho4; rw [← Ny76101.out] at ho4)); have n0_ := Aside0.mk (Kd.R_lower ho4 (below_size (by repeat (first | (with_reducible first | exact HB.out | apply below_alloc | apply pw_below_drewN | apply below_drew1) | exact HB.out)))); have n1_ := Aside0.mk (below_step (by repeat (first | (with_reducible first | exact HB.out | apply below_alloc | apply pw_below_drewN | apply below_drew1) | exact HB.out)) hb); clear HB; have HO76103 := n0_; have HB := n1_; clear n0_ n1_; clear hb ho4) | (at_builtin; refine print_append_str (w0 := w) w.heap.size rfl (.tmp 6) _ 48 9 5 rfl Try.underlying48 Try.underlying9 info5 v76102 y76101 a0 rfl rfl ?aO ?aB ?aS ?aL ?_; (case aB => exact (by repeat (first | (with_reducible first | exact HB.out | apply below_alloc | apply pw_below_drewN | apply below_drew1) | exact HB.out))); (case aO => exact (Kd.own_of_R (by (with_reducible repeat (first | apply Kd.R_alloc | apply Kd.R_drewN | apply Kd.R_drew)); exact HO76103.out))); (case aS => exact (below_size (by repeat (first | (with_reducible first | exact HB.out | apply below_alloc | apply pw_below_drewN | apply below_drew1) | exact HB.out)))); (case aL => have := LMc2.out; omega); intro v76105 w5 ho0 hb hg; have ho := Kd.R_of_own (h1 := fun _ => rfl) (ok := fun _ => True) ho0 (fun _ _ => trivial); clear ho0; have hat := True.intro; rw [← Ny76104.out] at ho; change Kd.R (Kd.int .u8) 5 w5 w.heap.size (fun _ => True) v76105 y76104 at ho; have n0_ := Aside0.mk (hb); have n1_ := Aside0.mk (ho); clear HB; clear HO76103; have HB := n0_; have HO76106 := n1_; clear n0_ n1_; clear ho hb hg hat))
    go_ret
    exact ⟨_, by first | rfl | (simp [errW_none, errW_some] <;> rfl) | (simp [*, errW_none, errW_some] <;> rfl), by (with_reducible repeat (first | apply Kd.R_alloc | apply Kd.R_drewN | apply Kd.R_drew)); exact HO76106.out, by repeat (first | (with_reducible first | exact HB.out | apply below_alloc | apply pw_below_drewN | apply below_drew1) | exact HB.out)⟩
  · rw [if_neg c2] at H
    exact absurd H (by simp)
end Go.Proofs.Ytemhalnhbgkbcaa.V
end

