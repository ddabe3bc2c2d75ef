/- Texts of ours that the claims of this seat share, put together (part 4). No further condition. -/
import Derived.Test.YtcdopgkkieenjaaDoorCCidrCoversx1
import Derived.Test.YtcdopgkkieenjaaDoorCCidrCoversx2
-- VFCidrPrint
section
-- PRINTED by print.py (a twelfth state) out of the translation. Not trusted: Lean checks it.
namespace Go.Proofs.YtcdopgkkieenjaaDoor.V
open Go.RowKit Go.Proofs.YtcdopgkkieenjaaDoorW.PrintWords Go.Proofs.YtcdopgkkieenjaaDoorW.PrintLast Go.Proofs.YtcdopgkkieenjaaDoorW.PrintMore
attribute [local go_sem] max2_int min2_int max_two min_two max_three min_three max_four min_four   -- for this text's walks alone
set_option linter.unusedVariables false
set_option linter.unusedSimpArgs false

/-! ### cidr_Print: function 32 -/
def cidr_Print.f (k : Nat) (a0_0 : Int) (a0_1 : Int) : Option (ByteArray) := (cidr_May.f a0_0 a0_1).bind fun t32102 => (if t32102 = true then ((ip_Print.f a0_0).bind fun t32103 => (if t32103.size + 1 ≤ 9223372036854775807 then ((cidr_digits.f k a0_1).bind fun t32104 => (if (t32103 ++ (⟨#[47]⟩ : ByteArray)).size + t32104.size ≤ 9223372036854775807 then (some ((t32103 ++ (⟨#[47]⟩ : ByteArray)) ++ t32104)) else (none))) else (none))) else (some (⟨#[]⟩ : ByteArray)))
theorem cidr_Print.mono : ∀ a0 a1 k, LeO (cidr_Print.f k a0 a1) (cidr_Print.f (k + 1) a0 a1) := by
  intro a0 a1 k
  unfold cidr_Print.f
  repeat' first
      | (with_reducible exact cidr_digits.mono _ _)
      | (with_reducible exact LeO.refl _)
      | (with_reducible exact LeO.none _)
      | (with_reducible refine LeO.ite ?_ ?_)
      | (with_reducible refine LeO.bind ?_ (fun _ => ?_))
      | exact cidr_digits.mono _ _
      | exact LeO.none _
      | refine LeO.ite ?_ ?_
      | refine LeO.bind ?_ (fun _ => ?_)
def cidr_Print.T3 : Bool × List (List Nat × List Nat) := (true, [([], []), ([0], [0]), ([1], [1]), ([2], [2]), ([], []), ([4], [4]), ([5, 2], [5]), ([3, 6], [3, 6]), ([7, 6, 0, 1, 2, 3, 4, 5, 6, 7], [7])])
def cidr_Print.B3 : List Nat := [0, 1, 3, 7, 0, 16, 55, 127, 255]
theorem cidr_Print.tab3 : rtab .any (opsOf Tryd.f32 3) = cidr_Print.T3 := by kernel_rfl
theorem cidr_Print.bits3 : waitsOk cidr_Print.T3.2 cidr_Print.B3 = true := by kernel_rfl
set_option maxHeartbeats 8000000 in
set_option maxRecDepth 100000 in
theorem cidr_Print.calls (k : Nat) (a0_0 : Int) (a0_1 : Int) (r : ByteArray) (w : World) (h : cidr_Print.f k a0_0 a0_1 = some r) :
    Calls Tryd.prog 32 #[.agg #[.int .u32 a0_0, .int .i64 a0_1]] w fun e w' => e = .returned (.string r) ∧ Below w.heap.size w w' := by
  have hu46 := Tryd.underlying46
  have HB := Aside0.mk (Below.refl w.heap.size w)
  have H : ((cidr_May.f a0_0 a0_1).bind fun t32102 => (if t32102 = true then ((ip_Print.f a0_0).bind fun t32103 => (if t32103.size + 1 ≤ 9223372036854775807 then ((cidr_digits.f k a0_1).bind fun t32104 => (if (t32103 ++ (⟨#[47]⟩ : ByteArray)).size + t32104.size ≤ 9223372036854775807 then (some ((t32103 ++ (⟨#[47]⟩ : ByteArray)) ++ t32104)) else (none))) else (none))) else (some (⟨#[]⟩ : ByteArray)))) = some r := h
  clear h
  replace H := Option.bind_eq_some_iff.mp H
  obtain ⟨t32102, A20, H⟩ := H
  replace H : (if t32102 = true then ((ip_Print.f a0_0).bind fun t32103 => (if t32103.size + 1 ≤ 9223372036854775807 then ((cidr_digits.f k a0_1).bind fun t32104 => (if (t32103 ++ (⟨#[47]⟩ : ByteArray)).size + t32104.size ≤ 9223372036854775807 then (some ((t32103 ++ (⟨#[47]⟩ : ByteArray)) ++ t32104)) else (none))) else (none))) else (some (⟨#[]⟩ : ByteArray))) = some r := H
  have A2 := Aside0.mk A20
  clear A20
  by_cases c3 : t32102 = true
  · subst c3
    have H1 : ((ip_Print.f a0_0).bind fun t32103 => (if t32103.size + 1 ≤ 9223372036854775807 then ((cidr_digits.f k a0_1).bind fun t32104 => (if (t32103 ++ (⟨#[47]⟩ : ByteArray)).size + t32104.size ≤ 9223372036854775807 then (some ((t32103 ++ (⟨#[47]⟩ : ByteArray)) ++ t32104)) else (none))) else (none))) = some r := by rw [if_pos rfl] at H; exact H
    clear H
    have H := H1
    clear H1
    replace H := Option.bind_eq_some_iff.mp H
    obtain ⟨t32103, A40, H⟩ := H
    replace H : (if t32103.size + 1 ≤ 9223372036854775807 then ((cidr_digits.f k a0_1).bind fun t32104 => (if (t32103 ++ (⟨#[47]⟩ : ByteArray)).size + t32104.size ≤ 9223372036854775807 then (some ((t32103 ++ (⟨#[47]⟩ : ByteArray)) ++ t32104)) else (none))) else (none)) = some r := H
    have A4 := Aside0.mk A40
    clear A40
    by_cases c5 : t32103.size + 1 ≤ 9223372036854775807
    · rw [if_pos c5] at H
      have c5b0 := eq_true c5
      have c5b1 : decide (t32103.size + 1 ≤ 9223372036854775807) = true := decide_eq_true c5
      try have c5b2 : (9223372036854775807 < t32103.size + 1) = False := eq_false (Nat.not_lt.2 c5)
      replace H := Option.bind_eq_some_iff.mp H
      obtain ⟨t32104, A60, H⟩ := H
      replace H : (if (t32103 ++ (⟨#[47]⟩ : ByteArray)).size + t32104.size ≤ 9223372036854775807 then (some ((t32103 ++ (⟨#[47]⟩ : ByteArray)) ++ t32104)) else (none)) = some r := H
      have A6 := Aside0.mk A60
      clear A60
      by_cases c7 : (t32103 ++ (⟨#[47]⟩ : ByteArray)).size + t32104.size ≤ 9223372036854775807
      · rw [if_pos c7] at H
        have c7b0 := eq_true c7
        have c7b1 : decide ((t32103 ++ (⟨#[47]⟩ : ByteArray)).size + t32104.size ≤ 9223372036854775807) = true := decide_eq_true c7
        try have c7b2 : (9223372036854775807 < (t32103 ++ (⟨#[47]⟩ : ByteArray)).size + t32104.size) = False := eq_false (Nat.not_lt.2 c7)
        try have c7s1 : ¬ 9223372036854775807 < t32103.size + 1 + t32104.size := by have h_ := c7; simp only [ByteArray.size_append] at h_; exact Nat.not_lt.2 h_
        try have c7s2 := eq_false c7s1
        obtain rfl := Option.some.inj H
        go_enter Tryd.func32, Tryd.ntmps32
        try go_wp2_with (first | ((with_reducible refine gate_dst (N := 1) rfl ?_); refine box_event ?hg (N := 1) ?hd (cs := #[.int .u32 a0_0, .int .i64 a0_1]) (t := 46) ?hr ?_; (case hd => rfl); (case hg => rfl); (case hr => first | (go_simp; done) | (go_simp; rfl)); intro gb32101 hg w8 hbox hb; have n0_ := Aside0.mk (below_step (by repeat (first | (with_reducible first | exact HB.out | apply below_alloc | apply pw_below_drewN | apply below_drew1) | exact HB.out)) hb); have n1_ := Aside0.mk (hbox); have n2_ := Aside0.mk ((by rw [hg]; exact (below_size (by repeat (first | (with_reducible first | exact HB.out | apply below_alloc | apply pw_below_drewN | apply below_drew1) | exact HB.out))) : w.heap.size ≤ gb32101)); have n3_ := Aside0.mk ((by rw [hg]; exact (below_size (by repeat (first | (with_reducible first | exact HB.out | apply below_alloc | apply pw_below_drewN | apply below_drew1) | exact HB.out))) : w.heap.size ≤ gb32101)); clear HB; have HB := n0_; have BK32101 := n1_; have GW32101 := n2_; have GE32101 := n3_; clear n0_ n1_ n2_ n3_; clear hb hbox hg; have hcz9_0 : w8.cell? ⟨gb32101, 0, none⟩ = some (.int .u32 a0_0) := (blk_cell BK32101.out 0).trans rfl; have hcz9_1 : w8.cell? ⟨gb32101, 1, none⟩ = some (.int .i64 a0_1) := (blk_cell BK32101.out 1).trans rfl; have hfz9_0 := blk_frozen BK32101.out 0; have hfz9_1 := blk_frozen BK32101.out 1) | ((with_reducible refine gate_callee (f := 34) rfl ?_); refine goesL_ (some 4) rfl rfl Tryd.func34 (by kernel_rfl) rfl #[.agg #[.int .u32 a0_0, .int .i64 a0_1]] rfl (by (try simp only [List.map_toArray, List.map_cons, List.map_nil]); first | done | rfl | (simp only [List.length_drop, List.length_take]; rfl)) ?_; (with_reducible refine (cidr_May.calls a0_0 a0_1 true _ A2.out).mono ?_); rintro e w10 ⟨rfl, hb⟩; refine ⟨_, rfl, ?_⟩; have n0_ := Aside0.mk (blk_below (g := gb32101) (o := .cells #[.int .u32 a0_0, .int .i64 a0_1] 46 (0, 0)) (by (with_reducible repeat (first | refine blk_drewN ?_ _ | refine blk_drew ?_ | refine blk_alloc ?_ _)); exact BK32101.out) hb); have n1_ := Aside0.mk (below_step (by repeat (first | (with_reducible first | exact HB.out | apply below_alloc | apply pw_below_drewN | apply below_drew1 | refine below_set ?_ GE32101.out) | exact HB.out)) hb); clear BK32101; clear HB; have BK32101 := n0_; have HB := n1_; clear n0_ n1_; (try clear hb); (try clear hb2); (try clear hk); (try clear hi)))
        have n0_ := Aside0.mk (blk_drew BK32101.out)
        have n1_ := Aside0.mk (below_drew1 HB.out)
        clear BK32101
        clear HB
        have BK32101 := n0_
        have HB := n1_
        clear n0_ n1_
        refine start_ (n := 9) (S := fun w' => w'.cell? ⟨gb32101, 0, none⟩ = some (.int .u32 a0_0) ∧ w'.cell? ⟨gb32101, 1, none⟩ = some (.int .i64 a0_1)) (ds := []) #[false, false, false, false, false, false, false, false, false] (by kernel_rfl) rfl rfl ⟨(blk_cell BK32101.out 0).trans rfl, (blk_cell BK32101.out 1).trans rfl⟩ (fun hHeld => ?_); refine with_tabW cidr_Print.tab3 cidr_Print.bits3 (fun HT_ HW_ => ?_)
        generalize w10.drew = w11 at BK32101 HB hHeld ⊢
        refine pure_ (i := 0) (N := some 6) (v := ?_) (a' := ?_) #[true, false, false, false, false, false, false, false, false] rfl rfl (any_of HT_.out (by kernel_rfl)) (fun _ _ _ h => h) (Or.inl ⟨by rfl, ?_⟩) ?_ ?_
        rotate_left
        · intro w'
          go_simp
          with_reducible rfl
        rotate_left
        · simp only [Act.put, List.setIfInBounds_toArray, List.set_cons_zero, List.set_cons_succ, i64_w, i32_w]
          rfl
        refine pure_ (i := 4) (N := some 10) (v := ?_) (a' := ?_) #[true, false, false, false, true, false, false, false, false] rfl rfl (any_of HT_.out (by kernel_rfl)) (fun _ _ _ h => h) (Or.inl ⟨by rfl, ?_⟩) ?_ ?_
        rotate_left
        · intro w'
          go_simp
          with_reducible rfl
        rotate_left
        · simp only [Act.put, List.setIfInBounds_toArray, List.set_cons_zero, List.set_cons_succ, i64_w, i32_w]
          rfl
        refine take_ (i := 1) (N := some 7) (v := ?_) (a' := ?_) #[true, true, false, false, true, false, false, false, false] rfl rfl (take_ofW HT_.out HW_.out (by kernel_rfl)) (fun _ _ _ h => h) (Or.inl ⟨by rfl, ?_⟩) hHeld ?_ ?_
        rotate_left
        · rintro w' ⟨s0, s1⟩
          go_simp
          with_reducible rfl
        rotate_left
        · simp only [Act.put, List.setIfInBounds_toArray, List.set_cons_zero, List.set_cons_succ, i64_w, i32_w]
          rfl
        refine take_ (i := 5) (N := some 11) (v := ?_) (a' := ?_) #[true, true, false, false, true, true, false, false, false] rfl rfl (take_ofW HT_.out HW_.out (by kernel_rfl)) (fun _ _ _ h => h) (Or.inl ⟨by rfl, ?_⟩) hHeld ?_ ?_
        rotate_left
        · rintro w' ⟨s0, s1⟩
          go_simp
          with_reducible rfl
        rotate_left
        · simp only [Act.put, List.setIfInBounds_toArray, List.set_cons_zero, List.set_cons_succ, i64_w, i32_w]
          rfl
        refine one_ (i := 2) (N := some 8) #[true, true, true, false, true, true, false, false, false] rfl rfl (one_of HT_.out (by kernel_rfl)) (by decide) (fun K hK => ?_)
        refine goes_ Tryd.func18 (by kernel_rfl) rfl #[.int .u32 a0_0] (by rfl) rfl rfl (by (try simp only [List.map_toArray, List.map_cons, List.map_nil]); first | done | rfl | (simp only [List.length_drop, List.length_take]; rfl)) ?_
        with_reducible refine (ip_Print.calls a0_0 t32103 _ A4.out).mono ?_
        rintro e w12 ⟨rfl, hb⟩
        refine ⟨_, rfl, ?_⟩
        have n0_ := Aside0.mk (blk_below (g := gb32101) (o := .cells #[.int .u32 a0_0, .int .i64 a0_1] 46 (0, 0)) (by (with_reducible repeat (first | refine blk_drewN ?_ _ | refine blk_drew ?_ | refine blk_alloc ?_ _)); exact BK32101.out) hb)
        have n1_ := Aside0.mk (below_step (by repeat (first | (with_reducible first | exact HB.out | apply below_alloc | apply pw_below_drewN | apply below_drew1 | refine below_set ?_ GE32101.out) | exact HB.out)) hb)
        clear BK32101
        clear HB
        have BK32101 := n0_
        have HB := n1_
        clear n0_ n1_
        (try clear hb)
        (try clear hb2)
        (try clear hk)
        (try clear hi)
        refine hK.out _ _ ⟨(blk_cell BK32101.out 0).trans rfl, (blk_cell BK32101.out 1).trans rfl⟩ (fun hHeld => ?_)
        clear hK K
        refine norm_ (a' := ?_) ?_ ?_
        rotate_left
        · show Act.put _ (some 8) _ = _
          simp only [Act.put, List.setIfInBounds_toArray, List.set_cons_zero, List.set_cons_succ, i64_w, i32_w]
          rfl
        refine pure_ (i := 3) (N := some 9) (v := ?_) (a' := ?_) #[true, true, true, true, true, true, false, false, false] rfl rfl (any_of HT_.out (by kernel_rfl)) (fun _ _ _ h => h) (Or.inl ⟨by rfl, ?_⟩) ?_ ?_
        rotate_left
        · intro w'
          go_simp
          with_reducible rfl
        rotate_left
        · simp only [Act.put, List.setIfInBounds_toArray, List.set_cons_zero, List.set_cons_succ, i64_w, i32_w]
          rfl
        refine one_ (i := 6) (N := some 12) #[true, true, true, true, true, true, true, false, false] rfl rfl (one_of HT_.out (by kernel_rfl)) (by decide) (fun K hK => ?_)
        refine goes_ Tryd.func80 (by kernel_rfl) rfl #[.int .i64 a0_1] (by rfl) rfl rfl (by (try simp only [List.map_toArray, List.map_cons, List.map_nil]); first | done | rfl | (simp only [List.length_drop, List.length_take]; rfl)) ?_
        with_reducible refine (cidr_digits.calls k a0_1 t32104 _ A6.out).mono ?_
        rintro e w13 ⟨rfl, hb⟩
        refine ⟨_, rfl, ?_⟩
        have n0_ := Aside0.mk (blk_below (g := gb32101) (o := .cells #[.int .u32 a0_0, .int .i64 a0_1] 46 (0, 0)) (by (with_reducible repeat (first | refine blk_drewN ?_ _ | refine blk_drew ?_ | refine blk_alloc ?_ _)); exact BK32101.out) hb)
        have n1_ := Aside0.mk (below_step (by repeat (first | (with_reducible first | exact HB.out | apply below_alloc | apply pw_below_drewN | apply below_drew1 | refine below_set ?_ GE32101.out) | exact HB.out)) hb)
        clear BK32101
        clear HB
        have BK32101 := n0_
        have HB := n1_
        clear n0_ n1_
        (try clear hb)
        (try clear hb2)
        (try clear hk)
        (try clear hi)
        refine hK.out _ _ ⟨(blk_cell BK32101.out 0).trans rfl, (blk_cell BK32101.out 1).trans rfl⟩ (fun hHeld => ?_)
        clear hK K
        refine norm_ (a' := ?_) ?_ ?_
        rotate_left
        · show Act.put _ (some 12) _ = _
          simp only [Act.put, List.setIfInBounds_toArray, List.set_cons_zero, List.set_cons_succ, i64_w, i32_w]
          rfl
        refine pure_ (i := 7) (N := some 13) (v := ?_) (a' := ?_) #[true, true, true, true, true, true, true, true, false] rfl rfl (any_of HT_.out (by kernel_rfl)) (fun _ _ _ h => h) (Or.inl ⟨by rfl, ?_⟩) ?_ ?_
        rotate_left
        · intro w'
          go_simp
          with_reducible rfl
        rotate_left
        · simp only [Act.put, List.setIfInBounds_toArray, List.set_cons_zero, List.set_cons_succ, i64_w, i32_w]
          rfl
        refine pure_ (i := 8) (N := some 2) (v := ?_) (a' := ?_) #[true, true, true, true, true, true, true, true, true] rfl rfl (any_of HT_.out (by kernel_rfl)) (fun _ _ _ h => h) (Or.inl ⟨by rfl, ?_⟩) ?_ ?_
        rotate_left
        · intro w'
          go_simp
          with_reducible rfl
        rotate_left
        · simp only [Act.put, List.setIfInBounds_toArray, List.set_cons_zero, List.set_cons_succ, i64_w, i32_w]
          rfl
        refine done_ (done_of HT_.out (by kernel_rfl)) ?_
        try go_wp2
        go_ret
        exact ⟨by first | rfl | (simp [errW_none, errW_some] <;> rfl) | (simp [*, errW_none, errW_some] <;> rfl), by repeat (first | (with_reducible first | exact HB.out | apply below_alloc | apply pw_below_drewN | apply below_drew1 | refine below_set ?_ GE32101.out) | exact HB.out)⟩
      · rw [if_neg c7] at H
        exact absurd H (by simp)
    · rw [if_neg c5] at H
      exact absurd H (by simp)
  · replace c3 := Bool.eq_false_iff.mpr c3
    subst c3
    have H1 : (some (⟨#[]⟩ : ByteArray)) = some r := by rw [if_neg (show ¬ (false = true) by decide)] at H; exact H
    clear H
    have H := H1
    clear H1
    obtain rfl := Option.some.inj H
    go_enter Tryd.func32, Tryd.ntmps32
    go_wp2_with (first | ((with_reducible refine gate_dst (N := 1) rfl ?_); refine box_event ?hg (N := 1) ?hd (cs := #[.int .u32 a0_0, .int .i64 a0_1]) (t := 46) ?hr ?_; (case hd => rfl); (case hg => rfl); (case hr => first | (go_simp; done) | (go_simp; rfl)); intro gb32101 hg w14 hbox hb; have n0_ := Aside0.mk (below_step (by repeat (first | (with_reducible first | exact HB.out | apply below_alloc | apply pw_below_drewN | apply below_drew1) | exact HB.out)) hb); have n1_ := Aside0.mk (hbox); have n2_ := Aside0.mk ((by rw [hg]; exact (below_size (by repeat (first | (with_reducible first | exact HB.out | apply below_alloc | apply pw_below_drewN | apply below_drew1) | exact HB.out))) : w.heap.size ≤ gb32101)); have n3_ := Aside0.mk ((by rw [hg]; exact (below_size (by repeat (first | (with_reducible first | exact HB.out | apply below_alloc | apply pw_below_drewN | apply below_drew1) | exact HB.out))) : w.heap.size ≤ gb32101)); clear HB; have HB := n0_; have BK32101 := n1_; have GW32101 := n2_; have GE32101 := n3_; clear n0_ n1_ n2_ n3_; clear hb hbox hg; have hcz15_0 : w14.cell? ⟨gb32101, 0, none⟩ = some (.int .u32 a0_0) := (blk_cell BK32101.out 0).trans rfl; have hcz15_1 : w14.cell? ⟨gb32101, 1, none⟩ = some (.int .i64 a0_1) := (blk_cell BK32101.out 1).trans rfl; have hfz15_0 := blk_frozen BK32101.out 0; have hfz15_1 := blk_frozen BK32101.out 1) | ((with_reducible refine gate_callee (f := 34) rfl ?_); refine goesL_ (some 4) rfl rfl Tryd.func34 (by kernel_rfl) rfl #[.agg #[.int .u32 a0_0, .int .i64 a0_1]] rfl (by (try simp only [List.map_toArray, List.map_cons, List.map_nil]); first | done | rfl | (simp only [List.length_drop, List.length_take]; rfl)) ?_; (with_reducible refine (cidr_May.calls a0_0 a0_1 false _ A2.out).mono ?_); rintro e w16 ⟨rfl, hb⟩; refine ⟨_, rfl, ?_⟩; have n0_ := Aside0.mk (blk_below (g := gb32101) (o := .cells #[.int .u32 a0_0, .int .i64 a0_1] 46 (0, 0)) (by (with_reducible repeat (first | refine blk_drewN ?_ _ | refine blk_drew ?_ | refine blk_alloc ?_ _)); exact BK32101.out) hb); have n1_ := Aside0.mk (below_step (by repeat (first | (with_reducible first | exact HB.out | apply below_alloc | apply pw_below_drewN | apply below_drew1 | refine below_set ?_ GE32101.out) | exact HB.out)) hb); clear BK32101; clear HB; have BK32101 := n0_; have HB := n1_; clear n0_ n1_; (try clear hb); (try clear hb2); (try clear hk); (try clear hi)))
    go_ret
    exact ⟨by first | rfl | (simp [errW_none, errW_some] <;> rfl) | (simp [*, errW_none, errW_some] <;> rfl), by repeat (first | (with_reducible first | exact HB.out | apply below_alloc | apply pw_below_drewN | apply below_drew1 | refine below_set ?_ GE32101.out) | exact HB.out)⟩
end Go.Proofs.YtcdopgkkieenjaaDoor.V
end

-- VFVirgateref01NumX81
section
-- PRINTED by print.py (a twelfth state) out of the translation. Not trusted: Lean checks it.
namespace Go.Proofs.YtcdopgkkieenjaaDoor.V
open Go.RowKit Go.Proofs.YtcdopgkkieenjaaDoorW.PrintWords Go.Proofs.YtcdopgkkieenjaaDoorW.PrintLast Go.Proofs.YtcdopgkkieenjaaDoorW.PrintMore
attribute [local go_sem] max2_int min2_int max_two min_two max_three min_three max_four min_four   -- for this text's walks alone
set_option linter.unusedVariables false
set_option linter.unusedSimpArgs false

/-! ### virgateref01_Num: function 81 -/
def virgateref01_Num.f (k : Nat) (a0 : Int) : Option (ByteArray) := (virgateref01_num.f k a0).bind fun t81101 => (some t81101)
theorem virgateref01_Num.mono : ∀ a0 k, LeO (virgateref01_Num.f k a0) (virgateref01_Num.f (k + 1) a0) := by
  intro a0 k
  unfold virgateref01_Num.f
  repeat' first
      | (with_reducible exact virgateref01_num.mono _ _)
      | (with_reducible exact LeO.refl _)
      | (with_reducible exact LeO.none _)
      | (with_reducible refine LeO.ite ?_ ?_)
      | (with_reducible refine LeO.bind ?_ (fun _ => ?_))
      | exact virgateref01_num.mono _ _
      | exact LeO.none _
      | refine LeO.ite ?_ ?_
      | refine LeO.bind ?_ (fun _ => ?_)
set_option maxHeartbeats 8000000 in
set_option maxRecDepth 100000 in
theorem virgateref01_Num.calls (k : Nat) (a0 : Int) (r : ByteArray) (w : World) (h : virgateref01_Num.f k a0 = some r) :
    Calls Tryd.prog 81 #[.int .i64 a0] w fun e w' => e = .returned (.string r) ∧ Below w.heap.size w w' := by
  have HB := Aside0.mk (Below.refl w.heap.size w)
  have H : ((virgateref01_num.f k a0).bind fun t81101 => (some t81101)) = some r := h
  clear h
  replace H := Option.bind_eq_some_iff.mp H
  obtain ⟨t81101, A20, H⟩ := H
  replace H : (some t81101) = some r := H
  have A2 := Aside0.mk A20
  clear A20
  obtain rfl := Option.some.inj H
  go_enter Tryd.func81, Tryd.ntmps81
  go_wp2_with (first | ((with_reducible refine gate_callee (f := 78) rfl ?_); refine goesL_ (some 4) rfl rfl Tryd.func78 (by kernel_rfl) rfl #[.int .i64 a0] rfl (by (try simp only [List.map_toArray, List.map_cons, List.map_nil]); first | done | rfl | (simp only [List.length_drop, List.length_take]; rfl)) ?_; (with_reducible refine (virgateref01_num.calls k a0 t81101 _ A2.out).mono ?_); rintro e w3 ⟨rfl, hb⟩; refine ⟨_, rfl, ?_⟩; have n0_ := Aside0.mk (below_step (by repeat (first | (with_reducible first | exact HB.out | apply below_alloc | apply pw_below_drewN | apply below_drew1) | exact HB.out)) hb); clear HB; have HB := n0_; clear n0_; (try clear hb); (try clear hb2); (try clear hk); (try clear hi)))
  go_ret
  exact ⟨by first | rfl | (simp [errW_none, errW_some] <;> rfl) | (simp [*, errW_none, errW_some] <;> rfl), by repeat (first | (with_reducible first | exact HB.out | apply below_alloc | apply pw_below_drewN | apply below_drew1) | exact HB.out)⟩
end Go.Proofs.YtcdopgkkieenjaaDoor.V
end

-- VFVirgateref02Print
section
-- PRINTED by print.py (a twelfth state) out of the translation. Not trusted: Lean checks it.
namespace Go.Proofs.YtcdopgkkieenjaaDoor.V
open Go.RowKit Go.Proofs.YtcdopgkkieenjaaDoorW.PrintWords Go.Proofs.YtcdopgkkieenjaaDoorW.PrintLast Go.Proofs.YtcdopgkkieenjaaDoorW.PrintMore
attribute [local go_sem] max2_int min2_int max_two min_two max_three min_three max_four min_four   -- for this text's walks alone
set_option linter.unusedVariables false
set_option linter.unusedSimpArgs false

/-! ### virgateref02_Print: function 36 -/
def virgateref02_Print.f (k : Nat) (a0_0 : Int) (a0_1 : Int) : Option (ByteArray) := (virgateref02_May.f k a0_0 a0_1).bind fun t36102 => (if t36102 = true then ((virgateref01_Print.f k a0_0).bind fun t36103 => (if t36103.size + 1 ≤ 9223372036854775807 then ((virgateref01_Num.f k a0_1).bind fun t36104 => (if (t36103 ++ (⟨#[47]⟩ : ByteArray)).size + t36104.size ≤ 9223372036854775807 then (some ((t36103 ++ (⟨#[47]⟩ : ByteArray)) ++ t36104)) else (none))) else (none))) else (some (⟨#[]⟩ : ByteArray)))
theorem virgateref02_Print.mono : ∀ a0 a1 k, LeO (virgateref02_Print.f k a0 a1) (virgateref02_Print.f (k + 1) a0 a1) := by
  intro a0 a1 k
  unfold virgateref02_Print.f
  repeat' first
      | (with_reducible exact virgateref01_Num.mono _ _)
      | (with_reducible exact virgateref01_Print.mono _ _)
      | (with_reducible exact virgateref02_May.mono _ _ _)
      | (with_reducible exact LeO.refl _)
      | (with_reducible exact LeO.none _)
      | (with_reducible refine LeO.ite ?_ ?_)
      | (with_reducible refine LeO.bind ?_ (fun _ => ?_))
      | exact virgateref01_Num.mono _ _
      | exact virgateref01_Print.mono _ _
      | exact virgateref02_May.mono _ _ _
      | exact LeO.none _
      | refine LeO.ite ?_ ?_
      | refine LeO.bind ?_ (fun _ => ?_)
def virgateref02_Print.T3 : Bool × List (List Nat × List Nat) := (true, [([], []), ([0], [0]), ([1], [1]), ([2], [2]), ([], []), ([4], [4]), ([5, 2], [5]), ([3, 6], [3, 6]), ([7, 6, 0, 1, 2, 3, 4, 5, 6, 7], [7])])
def virgateref02_Print.B3 : List Nat := [0, 1, 3, 7, 0, 16, 55, 127, 255]
theorem virgateref02_Print.tab3 : rtab .any (opsOf Tryd.f36 3) = virgateref02_Print.T3 := by kernel_rfl
theorem virgateref02_Print.bits3 : waitsOk virgateref02_Print.T3.2 virgateref02_Print.B3 = true := by kernel_rfl
set_option maxHeartbeats 8000000 in
set_option maxRecDepth 100000 in
theorem virgateref02_Print.calls (k : Nat) (a0_0 : Int) (a0_1 : Int) (r : ByteArray) (w : World) (h : virgateref02_Print.f k a0_0 a0_1 = some r) :
    Calls Tryd.prog 36 #[.agg #[.int .u32 a0_0, .int .i64 a0_1]] w fun e w' => e = .returned (.string r) ∧ Below w.heap.size w w' := by
  have hu44 := Tryd.underlying44
  have HB := Aside0.mk (Below.refl w.heap.size w)
  have H : ((virgateref02_May.f k a0_0 a0_1).bind fun t36102 => (if t36102 = true then ((virgateref01_Print.f k a0_0).bind fun t36103 => (if t36103.size + 1 ≤ 9223372036854775807 then ((virgateref01_Num.f k a0_1).bind fun t36104 => (if (t36103 ++ (⟨#[47]⟩ : ByteArray)).size + t36104.size ≤ 9223372036854775807 then (some ((t36103 ++ (⟨#[47]⟩ : ByteArray)) ++ t36104)) else (none))) else (none))) else (some (⟨#[]⟩ : ByteArray)))) = some r := h
  clear h
  replace H := Option.bind_eq_some_iff.mp H
  obtain ⟨t36102, A20, H⟩ := H
  replace H : (if t36102 = true then ((virgateref01_Print.f k a0_0).bind fun t36103 => (if t36103.size + 1 ≤ 9223372036854775807 then ((virgateref01_Num.f k a0_1).bind fun t36104 => (if (t36103 ++ (⟨#[47]⟩ : ByteArray)).size + t36104.size ≤ 9223372036854775807 then (some ((t36103 ++ (⟨#[47]⟩ : ByteArray)) ++ t36104)) else (none))) else (none))) else (some (⟨#[]⟩ : ByteArray))) = some r := H
  have A2 := Aside0.mk A20
  clear A20
  by_cases c3 : t36102 = true
  · subst c3
    have H1 : ((virgateref01_Print.f k a0_0).bind fun t36103 => (if t36103.size + 1 ≤ 9223372036854775807 then ((virgateref01_Num.f k a0_1).bind fun t36104 => (if (t36103 ++ (⟨#[47]⟩ : ByteArray)).size + t36104.size ≤ 9223372036854775807 then (some ((t36103 ++ (⟨#[47]⟩ : ByteArray)) ++ t36104)) else (none))) else (none))) = some r := by rw [if_pos rfl] at H; exact H
    clear H
    have H := H1
    clear H1
    replace H := Option.bind_eq_some_iff.mp H
    obtain ⟨t36103, A40, H⟩ := H
    replace H : (if t36103.size + 1 ≤ 9223372036854775807 then ((virgateref01_Num.f k a0_1).bind fun t36104 => (if (t36103 ++ (⟨#[47]⟩ : ByteArray)).size + t36104.size ≤ 9223372036854775807 then (some ((t36103 ++ (⟨#[47]⟩ : ByteArray)) ++ t36104)) else (none))) else (none)) = some r := H
    have A4 := Aside0.mk A40
    clear A40
    by_cases c5 : t36103.size + 1 ≤ 9223372036854775807
    · rw [if_pos c5] at H
      have c5b0 := eq_true c5
      have c5b1 : decide (t36103.size + 1 ≤ 9223372036854775807) = true := decide_eq_true c5
      try have c5b2 : (9223372036854775807 < t36103.size + 1) = False := eq_false (Nat.not_lt.2 c5)
      replace H := Option.bind_eq_some_iff.mp H
      obtain ⟨t36104, A60, H⟩ := H
      replace H : (if (t36103 ++ (⟨#[47]⟩ : ByteArray)).size + t36104.size ≤ 9223372036854775807 then (some ((t36103 ++ (⟨#[47]⟩ : ByteArray)) ++ t36104)) else (none)) = some r := H
      have A6 := Aside0.mk A60
      clear A60
      by_cases c7 : (t36103 ++ (⟨#[47]⟩ : ByteArray)).size + t36104.size ≤ 9223372036854775807
      · rw [if_pos c7] at H
        have c7b0 := eq_true c7
        have c7b1 : decide ((t36103 ++ (⟨#[47]⟩ : ByteArray)).size + t36104.size ≤ 9223372036854775807) = true := decide_eq_true c7
        try have c7b2 : (9223372036854775807 < (t36103 ++ (⟨#[47]⟩ : ByteArray)).size + t36104.size) = False := eq_false (Nat.not_lt.2 c7)
        try have c7s1 : ¬ 9223372036854775807 < t36103.size + 1 + t36104.size := by have h_ := c7; simp only [ByteArray.size_append] at h_; exact Nat.not_lt.2 h_
        try have c7s2 := eq_false c7s1
        obtain rfl := Option.some.inj H
        go_enter Tryd.func36, Tryd.ntmps36
        try go_wp2_with (first | ((with_reducible refine gate_dst (N := 1) rfl ?_); refine box_event ?hg (N := 1) ?hd (cs := #[.int .u32 a0_0, .int .i64 a0_1]) (t := 44) ?hr ?_; (case hd => rfl); (case hg => rfl); (case hr => first | (go_simp; done) | (go_simp; rfl)); intro gb36101 hg w8 hbox hb; have n0_ := Aside0.mk (below_step (by repeat (first | (with_reducible first | exact HB.out | apply below_alloc | apply pw_below_drewN | apply below_drew1) | exact HB.out)) hb); have n1_ := Aside0.mk (hbox); have n2_ := Aside0.mk ((by rw [hg]; exact (below_size (by repeat (first | (with_reducible first | exact HB.out | apply below_alloc | apply pw_below_drewN | apply below_drew1) | exact HB.out))) : w.heap.size ≤ gb36101)); have n3_ := Aside0.mk ((by rw [hg]; exact (below_size (by repeat (first | (with_reducible first | exact HB.out | apply below_alloc | apply pw_below_drewN | apply below_drew1) | exact HB.out))) : w.heap.size ≤ gb36101)); clear HB; have HB := n0_; have BK36101 := n1_; have GW36101 := n2_; have GE36101 := n3_; clear n0_ n1_ n2_ n3_; clear hb hbox hg; have hcz9_0 : w8.cell? ⟨gb36101, 0, none⟩ = some (.int .u32 a0_0) := (blk_cell BK36101.out 0).trans rfl; have hcz9_1 : w8.cell? ⟨gb36101, 1, none⟩ = some (.int .i64 a0_1) := (blk_cell BK36101.out 1).trans rfl; have hfz9_0 := blk_frozen BK36101.out 0; have hfz9_1 := blk_frozen BK36101.out 1) | ((with_reducible refine gate_callee (f := 35) rfl ?_); refine goesL_ (some 4) rfl rfl Tryd.func35 (by kernel_rfl) rfl #[.agg #[.int .u32 a0_0, .int .i64 a0_1]] rfl (by (try simp only [List.map_toArray, List.map_cons, List.map_nil]); first | done | rfl | (simp only [List.length_drop, List.length_take]; rfl)) ?_; (with_reducible refine (virgateref02_May.calls k a0_0 a0_1 true _ A2.out).mono ?_); rintro e w10 ⟨rfl, hb⟩; refine ⟨_, rfl, ?_⟩; have n0_ := Aside0.mk (blk_below (g := gb36101) (o := .cells #[.int .u32 a0_0, .int .i64 a0_1] 44 (0, 0)) (by (with_reducible repeat (first | refine blk_drewN ?_ _ | refine blk_drew ?_ | refine blk_alloc ?_ _)); exact BK36101.out) hb); have n1_ := Aside0.mk (below_step (by repeat (first | (with_reducible first | exact HB.out | apply below_alloc | apply pw_below_drewN | apply below_drew1 | refine below_set ?_ GE36101.out) | exact HB.out)) hb); clear BK36101; clear HB; have BK36101 := n0_; have HB := n1_; clear n0_ n1_; (try clear hb); (try clear hb2); (try clear hk); (try clear hi)))
        have n0_ := Aside0.mk (blk_drew BK36101.out)
        have n1_ := Aside0.mk (below_drew1 HB.out)
        clear BK36101
        clear HB
        have BK36101 := n0_
        have HB := n1_
        clear n0_ n1_
        refine start_ (n := 9) (S := fun w' => w'.cell? ⟨gb36101, 0, none⟩ = some (.int .u32 a0_0) ∧ w'.cell? ⟨gb36101, 1, none⟩ = some (.int .i64 a0_1)) (ds := []) #[false, false, false, false, false, false, false, false, false] (by kernel_rfl) rfl rfl ⟨(blk_cell BK36101.out 0).trans rfl, (blk_cell BK36101.out 1).trans rfl⟩ (fun hHeld => ?_); refine with_tabW virgateref02_Print.tab3 virgateref02_Print.bits3 (fun HT_ HW_ => ?_)
        generalize w10.drew = w11 at BK36101 HB hHeld ⊢
        refine pure_ (i := 0) (N := some 6) (v := ?_) (a' := ?_) #[true, false, false, false, false, false, false, false, false] rfl rfl (any_of HT_.out (by kernel_rfl)) (fun _ _ _ h => h) (Or.inl ⟨by rfl, ?_⟩) ?_ ?_
        rotate_left
        · intro w'
          go_simp
          with_reducible rfl
        rotate_left
        · simp only [Act.put, List.setIfInBounds_toArray, List.set_cons_zero, List.set_cons_succ, i64_w, i32_w]
          rfl
        refine pure_ (i := 4) (N := some 10) (v := ?_) (a' := ?_) #[true, false, false, false, true, false, false, false, false] rfl rfl (any_of HT_.out (by kernel_rfl)) (fun _ _ _ h => h) (Or.inl ⟨by rfl, ?_⟩) ?_ ?_
        rotate_left
        · intro w'
          go_simp
          with_reducible rfl
        rotate_left
        · simp only [Act.put, List.setIfInBounds_toArray, List.set_cons_zero, List.set_cons_succ, i64_w, i32_w]
          rfl
        refine take_ (i := 1) (N := some 7) (v := ?_) (a' := ?_) #[true, true, false, false, true, false, false, false, false] rfl rfl (take_ofW HT_.out HW_.out (by kernel_rfl)) (fun _ _ _ h => h) (Or.inl ⟨by rfl, ?_⟩) hHeld ?_ ?_
        rotate_left
        · rintro w' ⟨s0, s1⟩
          go_simp
          with_reducible rfl
        rotate_left
        · simp only [Act.put, List.setIfInBounds_toArray, List.set_cons_zero, List.set_cons_succ, i64_w, i32_w]
          rfl
        refine take_ (i := 5) (N := some 11) (v := ?_) (a' := ?_) #[true, true, false, false, true, true, false, false, false] rfl rfl (take_ofW HT_.out HW_.out (by kernel_rfl)) (fun _ _ _ h => h) (Or.inl ⟨by rfl, ?_⟩) hHeld ?_ ?_
        rotate_left
        · rintro w' ⟨s0, s1⟩
          go_simp
          with_reducible rfl
        rotate_left
        · simp only [Act.put, List.setIfInBounds_toArray, List.set_cons_zero, List.set_cons_succ, i64_w, i32_w]
          rfl
        refine one_ (i := 2) (N := some 8) #[true, true, true, false, true, true, false, false, false] rfl rfl (one_of HT_.out (by kernel_rfl)) (by decide) (fun K hK => ?_)
        refine goes_ Tryd.func20 (by kernel_rfl) rfl #[.int .u32 a0_0] (by rfl) rfl rfl (by (try simp only [List.map_toArray, List.map_cons, List.map_nil]); first | done | rfl | (simp only [List.length_drop, List.length_take]; rfl)) ?_
        with_reducible refine (virgateref01_Print.calls k a0_0 t36103 _ A4.out).mono ?_
        rintro e w12 ⟨rfl, hb⟩
        refine ⟨_, rfl, ?_⟩
        have n0_ := Aside0.mk (blk_below (g := gb36101) (o := .cells #[.int .u32 a0_0, .int .i64 a0_1] 44 (0, 0)) (by (with_reducible repeat (first | refine blk_drewN ?_ _ | refine blk_drew ?_ | refine blk_alloc ?_ _)); exact BK36101.out) hb)
        have n1_ := Aside0.mk (below_step (by repeat (first | (with_reducible first | exact HB.out | apply below_alloc | apply pw_below_drewN | apply below_drew1 | refine below_set ?_ GE36101.out) | exact HB.out)) hb)
        clear BK36101
        clear HB
        have BK36101 := n0_
        have HB := n1_
        clear n0_ n1_
        (try clear hb)
        (try clear hb2)
        (try clear hk)
        (try clear hi)
        refine hK.out _ _ ⟨(blk_cell BK36101.out 0).trans rfl, (blk_cell BK36101.out 1).trans rfl⟩ (fun hHeld => ?_)
        clear hK K
        refine norm_ (a' := ?_) ?_ ?_
        rotate_left
        · show Act.put _ (some 8) _ = _
          simp only [Act.put, List.setIfInBounds_toArray, List.set_cons_zero, List.set_cons_succ, i64_w, i32_w]
          rfl
        refine pure_ (i := 3) (N := some 9) (v := ?_) (a' := ?_) #[true, true, true, true, true, true, false, false, false] rfl rfl (any_of HT_.out (by kernel_rfl)) (fun _ _ _ h => h) (Or.inl ⟨by rfl, ?_⟩) ?_ ?_
        rotate_left
        · intro w'
          go_simp
          with_reducible rfl
        rotate_left
        · simp only [Act.put, List.setIfInBounds_toArray, List.set_cons_zero, List.set_cons_succ, i64_w, i32_w]
          rfl
        refine one_ (i := 6) (N := some 12) #[true, true, true, true, true, true, true, false, false] rfl rfl (one_of HT_.out (by kernel_rfl)) (by decide) (fun K hK => ?_)
        refine goes_ Tryd.func81 (by kernel_rfl) rfl #[.int .i64 a0_1] (by rfl) rfl rfl (by (try simp only [List.map_toArray, List.map_cons, List.map_nil]); first | done | rfl | (simp only [List.length_drop, List.length_take]; rfl)) ?_
        with_reducible refine (virgateref01_Num.calls k a0_1 t36104 _ A6.out).mono ?_
        rintro e w13 ⟨rfl, hb⟩
        refine ⟨_, rfl, ?_⟩
        have n0_ := Aside0.mk (blk_below (g := gb36101) (o := .cells #[.int .u32 a0_0, .int .i64 a0_1] 44 (0, 0)) (by (with_reducible repeat (first | refine blk_drewN ?_ _ | refine blk_drew ?_ | refine blk_alloc ?_ _)); exact BK36101.out) hb)
        have n1_ := Aside0.mk (below_step (by repeat (first | (with_reducible first | exact HB.out | apply below_alloc | apply pw_below_drewN | apply below_drew1 | refine below_set ?_ GE36101.out) | exact HB.out)) hb)
        clear BK36101
        clear HB
        have BK36101 := n0_
        have HB := n1_
        clear n0_ n1_
        (try clear hb)
        (try clear hb2)
        (try clear hk)
        (try clear hi)
        refine hK.out _ _ ⟨(blk_cell BK36101.out 0).trans rfl, (blk_cell BK36101.out 1).trans rfl⟩ (fun hHeld => ?_)
        clear hK K
        refine norm_ (a' := ?_) ?_ ?_
        rotate_left
        · show Act.put _ (some 12) _ = _
          simp only [Act.put, List.setIfInBounds_toArray, List.set_cons_zero, List.set_cons_succ, i64_w, i32_w]
          rfl
        refine pure_ (i := 7) (N := some 13) (v := ?_) (a' := ?_) #[true, true, true, true, true, true, true, true, false] rfl rfl (any_of HT_.out (by kernel_rfl)) (fun _ _ _ h => h) (Or.inl ⟨by rfl, ?_⟩) ?_ ?_
        rotate_left
        · intro w'
          go_simp
          with_reducible rfl
        rotate_left
        · simp only [Act.put, List.setIfInBounds_toArray, List.set_cons_zero, List.set_cons_succ, i64_w, i32_w]
          rfl
        refine pure_ (i := 8) (N := some 2) (v := ?_) (a' := ?_) #[true, true, true, true, true, true, true, true, true] rfl rfl (any_of HT_.out (by kernel_rfl)) (fun _ _ _ h => h) (Or.inl ⟨by rfl, ?_⟩) ?_ ?_
        rotate_left
        · intro w'
          go_simp
          with_reducible rfl
        rotate_left
        · simp only [Act.put, List.setIfInBounds_toArray, List.set_cons_zero, List.set_cons_succ, i64_w, i32_w]
          rfl
        refine done_ (done_of HT_.out (by kernel_rfl)) ?_
        try go_wp2
        go_ret
        exact ⟨by first | rfl | (simp [errW_none, errW_some] <;> rfl) | (simp [*, errW_none, errW_some] <;> rfl), by repeat (first | (with_reducible first | exact HB.out | apply below_alloc | apply pw_below_drewN | apply below_drew1 | refine below_set ?_ GE36101.out) | exact HB.out)⟩
      · rw [if_neg c7] at H
        exact absurd H (by simp)
    · rw [if_neg c5] at H
      exact absurd H (by simp)
  · replace c3 := Bool.eq_false_iff.mpr c3
    subst c3
    have H1 : (some (⟨#[]⟩ : ByteArray)) = some r := by rw [if_neg (show ¬ (false = true) by decide)] at H; exact H
    clear H
    have H := H1
    clear H1
    obtain rfl := Option.some.inj H
    go_enter Tryd.func36, Tryd.ntmps36
    go_wp2_with (first | ((with_reducible refine gate_dst (N := 1) rfl ?_); refine box_event ?hg (N := 1) ?hd (cs := #[.int .u32 a0_0, .int .i64 a0_1]) (t := 44) ?hr ?_; (case hd => rfl); (case hg => rfl); (case hr => first | (go_simp; done) | (go_simp; rfl)); intro gb36101 hg w14 hbox hb; have n0_ := Aside0.mk (below_step (by repeat (first | (with_reducible first | exact HB.out | apply below_alloc | apply pw_below_drewN | apply below_drew1) | exact HB.out)) hb); have n1_ := Aside0.mk (hbox); have n2_ := Aside0.mk ((by rw [hg]; exact (below_size (by repeat (first | (with_reducible first | exact HB.out | apply below_alloc | apply pw_below_drewN | apply below_drew1) | exact HB.out))) : w.heap.size ≤ gb36101)); have n3_ := Aside0.mk ((by rw [hg]; exact (below_size (by repeat (first | (with_reducible first | exact HB.out | apply below_alloc | apply pw_below_drewN | apply below_drew1) | exact HB.out))) : w.heap.size ≤ gb36101)); clear HB; have HB := n0_; have BK36101 := n1_; have GW36101 := n2_; have GE36101 := n3_; clear n0_ n1_ n2_ n3_; clear hb hbox hg; have hcz15_0 : w14.cell? ⟨gb36101, 0, none⟩ = some (.int .u32 a0_0) := (blk_cell BK36101.out 0).trans rfl; have hcz15_1 : w14.cell? ⟨gb36101, 1, none⟩ = some (.int .i64 a0_1) := (blk_cell BK36101.out 1).trans rfl; have hfz15_0 := blk_frozen BK36101.out 0; have hfz15_1 := blk_frozen BK36101.out 1) | ((with_reducible refine gate_callee (f := 35) rfl ?_); refine goesL_ (some 4) rfl rfl Tryd.func35 (by kernel_rfl) rfl #[.agg #[.int .u32 a0_0, .int .i64 a0_1]] rfl (by (try simp only [List.map_toArray, List.map_cons, List.map_nil]); first | done | rfl | (simp only [List.length_drop, List.length_take]; rfl)) ?_; (with_reducible refine (virgateref02_May.calls k a0_0 a0_1 false _ A2.out).mono ?_); rintro e w16 ⟨rfl, hb⟩; refine ⟨_, rfl, ?_⟩; have n0_ := Aside0.mk (blk_below (g := gb36101) (o := .cells #[.int .u32 a0_0, .int .i64 a0_1] 44 (0, 0)) (by (with_reducible repeat (first | refine blk_drewN ?_ _ | refine blk_drew ?_ | refine blk_alloc ?_ _)); exact BK36101.out) hb); have n1_ := Aside0.mk (below_step (by repeat (first | (with_reducible first | exact HB.out | apply below_alloc | apply pw_below_drewN | apply below_drew1 | refine below_set ?_ GE36101.out) | exact HB.out)) hb); clear BK36101; clear HB; have BK36101 := n0_; have HB := n1_; clear n0_ n1_; (try clear hb); (try clear hb2); (try clear hk); (try clear hi)))
    go_ret
    exact ⟨by first | rfl | (simp [errW_none, errW_some] <;> rfl) | (simp [*, errW_none, errW_some] <;> rfl), by repeat (first | (with_reducible first | exact HB.out | apply below_alloc | apply pw_below_drewN | apply below_drew1 | refine below_set ?_ GE36101.out) | exact HB.out)⟩
end Go.Proofs.YtcdopgkkieenjaaDoor.V
end

-- ICidrQ
section
/- A net's text, and which net a text is: plain. -/
namespace Go.Proofs.YtcdopgkkieenjaaDoor.V
open Go.RowKit Go.Proofs.YtcdopgkkieenjaaDoorW.PrintWords Go.Proofs.YtcdopgkkieenjaaDoorW.PrintLast Go.Proofs.YtcdopgkkieenjaaDoorW.PrintMore
set_option linter.unusedVariables false
set_option linter.unusedSimpArgs false

theorem cdig_all : ((List.range 33).all fun n => decide (cidr_digits.f 4 (n : Int) = some (decB n))) = true := by kernel_rfl
theorem cdig_f (n : Nat) (hn : n < 33) (k : Nat) (hk : 4 ≤ k) : cidr_digits.f k (n : Int) = some (decB n) :=
  up (fun k => cidr_digits.f k (n : Int)) (cidr_digits.mono _) hk (by have := List.all_eq_true.1 cdig_all n (List.mem_range.2 hn); simpa using this)
/-- A net's text; none, if it may not be. -/
def netText (a : Nat) (b : Int) : ByteArray := if mayN a b = true then ipText a ++ (⟨#[47]⟩ : ByteArray) ++ decB b.toNat else ⟨#[]⟩
theorem ipText_size (a : Nat) : (ipText a).size ≤ 15 := by
  have := ipText_length a
  unfold ipText
  simpa [ByteArray.size] using this
theorem may_nat {a : Nat} {b : Int} (h : mayN a b = true) : ∃ n : Nat, b = n ∧ n ≤ 32 ∧ a % sz n = 0 := by
  simp only [mayN, Bool.and_eq_true, decide_eq_true_eq] at h
  exact ⟨b.toNat, by omega, by omega, h.2⟩
theorem print_f (a : Nat) (ha : a < 4294967296) (b : Int) (k : Nat) (hk : 4 ≤ k) : cidr_Print.f k (a : Int) b = some (netText a b) := by
  unfold cidr_Print.f netText
  rw [may_f a ha, Option.bind_some]
  cases hm : mayN a b with
  | false => rfl
  | true =>
    obtain ⟨n, rfl, hn, hd⟩ := may_nat hm
    have hp : ip_Print.f (a : Int) = some (ipText a) := by unfold ip_Print.f; rw [if_pos (by omega)]; rfl
    have h1 := ipText_size a; have h2 := decB_size n
    rw [if_pos rfl, hp, Option.bind_some, if_pos (by omega), cdig_f n (by omega) k hk, Option.bind_some, if_pos (by rw [ByteArray.size_append, lit1]; omega)]
    rfl
/-- The number that one or two signs are, digits or not. -/
def numB (b : ByteArray) : Nat → Int
  | 0 => 0
  | j + 1 => 10 * numB b j + bt b (j : Int) - 48
/-- Which net a text is, as cidr.Parse says it. -/
def cidrR (s : ByteArray) : Int × Int × Int :=
  if (cutB 47 s).2.2 = true ∧ (parseR (cutB 47 s).1).2 = 0 ∧ 1 ≤ (cutB 47 s).2.1.size ∧ (cutB 47 s).2.1.size ≤ 2 ∧ netText (parseR (cutB 47 s).1).1.toNat (numB (cutB 47 s).2.1 (cutB 47 s).2.1.size) = s
  then ((parseR (cutB 47 s).1).1, numB (cutB 47 s).2.1 (cutB 47 s).2.1.size, 0) else (0, 0, 3)
end Go.Proofs.YtcdopgkkieenjaaDoor.V
end

-- ICidrR
section
/- Which net a text is: the program's way and the document's are one. -/
namespace Go.Proofs.YtcdopgkkieenjaaDoor.V
open Go.RowKit Go.Proofs.YtcdopgkkieenjaaDoorW.PrintWords Go.Proofs.YtcdopgkkieenjaaDoorW.PrintLast Go.Proofs.YtcdopgkkieenjaaDoorW.PrintMore
set_option linter.unusedVariables false
set_option linter.unusedSimpArgs false

/-! ### Cut at the first c -/
theorem data_ext {s t : ByteArray} (h : s.data.toList = t.data.toList) : s = t := ByteArray.ext (Array.ext' h)
/-! ### The document's Parse -/
end Go.Proofs.YtcdopgkkieenjaaDoor.V
end

-- ICidrW
section
/- (cidr.Net).Last by hand, in the print's own form. -/
namespace Go.Proofs.YtcdopgkkieenjaaDoor.V
open Go.RowKit Go.Proofs.YtcdopgkkieenjaaDoorW.PrintWords Go.Proofs.YtcdopgkkieenjaaDoorW.PrintLast Go.Proofs.YtcdopgkkieenjaaDoorW.PrintMore
set_option linter.unusedVariables false
set_option linter.unusedSimpArgs false

def netC (a b : Int) : List Value := [.int .u32 a, .int .i64 b]
def netLast.T3 : Bool × List (List Nat × List Nat) := (true, [([], []), ([0], [0]), ([], []), ([2], [2]), ([3], [3]), ([4], [4]), ([1, 5], [1, 5]), ([6, 4, 0, 1, 2, 3, 4, 5, 6], [6])])
def netLast.B3 : List Nat := [0, 1, 0, 4, 12, 28, 63, 127]
theorem netLast.tab3 : rtab .any (opsOf Tryd.f49 3) = netLast.T3 := by kernel_rfl
theorem netLast.bits3 : waitsOk netLast.T3.2 netLast.B3 = true := by kernel_rfl
def cidr_Net_Last.f (a0_0 a0_1 : Int) : Option Int := (cidr_May.f a0_0 a0_1).bind fun t => if t = true then (cidr_Mask.f a0_1).bind fun m => some (Go.bits .or .u32 a0_0 (Go.bits .xor .u32 IntKind.u32.max m)) else some 0
set_option maxHeartbeats 2000000 in
set_option maxRecDepth 100000 in
theorem cidr_Net_Last.calls (a0_0 a0_1 r : Int) (w : World) (h : cidr_Net_Last.f a0_0 a0_1 = some r) :
    Calls Tryd.prog 49 #[.agg #[.int .u32 a0_0, .int .i64 a0_1]] w fun e w' => e = .returned (.int .u32 r) ∧ Below w.heap.size w w' := by
  unfold cidr_Net_Last.f at h
  obtain ⟨t, h1, h⟩ := Option.bind_eq_some_iff.1 h
  have H1 := Aside0.mk h1
  clear h1
  cases t with
  | false =>
    have hr : (0 : Int) = r := by simpa using h
    subst hr
    clear h
    go_enter Tryd.func49, Tryd.ntmps49
    go_wp2_with (first
      | (refine step_box rfl 46 (.tmp 0) rfl (netC a0_0 a0_1) rfl ?_; intro g3 W3 hg3 HB3 hb3)
      | (refine step_load rfl _ (.tmp 1) rfl g3 rfl _ _ _ HB3 Tryd.underlying46 rfl 2 (by kernel_rfl) rfl ?_)
      | (go_at_call 34; refine (cidr_May.calls _ _ _ _ H1.out).mono ?_; rintro e W4 ⟨rfl, hb4⟩))
    go_ret
    exact ⟨rfl, hb3.trans (hb4.mono hb3.size)⟩
  | true =>
    rw [if_pos rfl] at h
    obtain ⟨m, h2, h⟩ := Option.bind_eq_some_iff.1 h
    have hr := Option.some.inj h
    have HM := Aside0.mk h2
    have HR := Aside0.mk hr
    clear h h2 hr
    go_enter Tryd.func49, Tryd.ntmps49
    go_wp2_with (first
      | (refine step_box rfl 46 (.tmp 0) rfl (netC a0_0 a0_1) rfl ?_; intro g3 W3 hg3 HB3 hb3)
      | (refine step_load rfl _ (.tmp 1) rfl g3 rfl _ _ _ HB3 Tryd.underlying46 rfl 2 (by kernel_rfl) rfl ?_)
      | (go_at_call 34; refine (cidr_May.calls _ _ _ _ H1.out).mono ?_; rintro e W4 ⟨rfl, hb4⟩; have HB4 := Aside0.mk (HB3.below hb4); have HBB := Aside0.mk (hb3.trans (hb4.mono hb3.size)); clear HB3 hb3 hb4))
    refine start_ (n := 8) (S := fun w' => w'.cell? ⟨g3, 0, none⟩ = some (.int .u32 a0_0) ∧ w'.cell? ⟨g3, 1, none⟩ = some (.int .i64 a0_1)) (ds := []) #[false, false, false, false, false, false, false, false] (by kernel_rfl) rfl rfl ⟨HB4.out.cell 0 _ rfl, HB4.out.cell 1 _ rfl⟩ (fun hHeld => ?_); refine with_tabW netLast.tab3 netLast.bits3 (fun HT_ HW_ => ?_)
    refine pure_ (i := 0) (N := some 6) (v := ?_) (a' := ?_) #[true, false, false, false, false, false, false, false] rfl rfl (any_of HT_.out (by kernel_rfl)) (fun _ _ _ h => h) (Or.inl ⟨by rfl, ?_⟩) ?_ ?_
    rotate_left
    · intro w'
      go_simp
      with_reducible rfl
    rotate_left
    · simp only [Act.put, List.setIfInBounds_toArray, List.set_cons_zero, List.set_cons_succ, i64_w, i32_w]
      rfl
    refine take_ (i := 1) (N := some 7) (v := ?_) (a' := ?_) #[true, true, false, false, false, false, false, false] rfl rfl (take_ofW HT_.out HW_.out (by kernel_rfl)) (fun _ _ _ h => h) (Or.inl ⟨by rfl, ?_⟩) hHeld ?_ ?_
    rotate_left
    · intro w' hS_
      obtain ⟨s0, s1⟩ := hS_
      go_simp
      with_reducible rfl
    rotate_left
    · simp only [Act.put, List.setIfInBounds_toArray, List.set_cons_zero, List.set_cons_succ, i64_w, i32_w]
      rfl
    refine pure_ (i := 2) (N := some 8) (v := ?_) (a' := ?_) #[true, true, true, false, false, false, false, false] rfl rfl (any_of HT_.out (by kernel_rfl)) (fun _ _ _ h => h) (Or.inl ⟨by rfl, ?_⟩) ?_ ?_
    rotate_left
    · intro w'
      go_simp
      with_reducible rfl
    rotate_left
    · simp only [Act.put, List.setIfInBounds_toArray, List.set_cons_zero, List.set_cons_succ, i64_w, i32_w]
      rfl
    refine take_ (i := 3) (N := some 9) (v := ?_) (a' := ?_) #[true, true, true, true, false, false, false, false] rfl rfl (take_ofW HT_.out HW_.out (by kernel_rfl)) (fun _ _ _ h => h) (Or.inl ⟨by rfl, ?_⟩) hHeld ?_ ?_
    rotate_left
    · intro w' hS_
      obtain ⟨s0, s1⟩ := hS_
      go_simp
      with_reducible rfl
    rotate_left
    · simp only [Act.put, List.setIfInBounds_toArray, List.set_cons_zero, List.set_cons_succ, i64_w, i32_w]
      rfl
    refine one_ (i := 4) (N := some 10) #[true, true, true, true, true, false, false, false] rfl rfl (one_of HT_.out (by kernel_rfl)) (by decide) (fun K hK => ?_)
    refine goes_ Tryd.func54 (by kernel_rfl) rfl #[.int .i64 a0_1] (by rfl) rfl rfl (by (try simp only [List.map_toArray, List.map_cons, List.map_nil]); first | done | rfl) ?_
    refine (cidr_Mask.calls a0_1 m _ HM.out).mono ?_
    rintro e W5 ⟨rfl, hb5⟩
    refine ⟨_, rfl, ?_⟩
    have HB5 := Aside0.mk ((show Box W4.drew g3 (netC a0_0 a0_1) _ from HB4.out).below hb5); have HBC := Aside0.mk (below_step (below_drew1 HBB.out) hb5); clear hb5
    refine hK.out _ _ ⟨HB5.out.cell 0 _ rfl, HB5.out.cell 1 _ rfl⟩ (fun hHeld => ?_)
    clear hK K
    refine norm_ (a' := ?_) ?_ ?_
    rotate_left
    · show Act.put _ (some 10) _ = _
      simp only [Act.put, List.setIfInBounds_toArray, List.set_cons_zero, List.set_cons_succ, i64_w, i32_w]
      rfl
    refine pure_ (i := 5) (N := some 11) (v := ?_) (a' := ?_) #[true, true, true, true, true, true, false, false] rfl rfl (any_of HT_.out (by kernel_rfl)) (fun _ _ _ h => h) (Or.inl ⟨by rfl, ?_⟩) ?_ ?_
    rotate_left
    · intro w'
      go_simp
      with_reducible rfl
    rotate_left
    · simp only [Act.put, List.setIfInBounds_toArray, List.set_cons_zero, List.set_cons_succ, i64_w, i32_w]
      rfl
    refine pure_ (i := 6) (N := some 12) (v := ?_) (a' := ?_) #[true, true, true, true, true, true, true, false] rfl rfl (any_of HT_.out (by kernel_rfl)) (fun _ _ _ h => h) (Or.inl ⟨by rfl, ?_⟩) ?_ ?_
    rotate_left
    · intro w'
      go_simp
      with_reducible rfl
    rotate_left
    · simp only [Act.put, List.setIfInBounds_toArray, List.set_cons_zero, List.set_cons_succ, i64_w, i32_w]
      rfl
    refine pure_ (i := 7) (N := some 2) (v := ?_) (a' := ?_) #[true, true, true, true, true, true, true, true] rfl rfl (any_of HT_.out (by kernel_rfl)) (fun _ _ _ h => h) (Or.inl ⟨by rfl, ?_⟩) ?_ ?_
    rotate_left
    · intro w'
      go_simp
      with_reducible rfl
    rotate_left
    · simp only [Act.put, List.setIfInBounds_toArray, List.set_cons_zero, List.set_cons_succ, i64_w, i32_w]
      rfl
    refine done_ (done_of HT_.out (by kernel_rfl)) ?_
    try go_wp2
    go_ret
    refine ⟨?_, HBC.out⟩
    rw [← HR.out]
    rfl
end Go.Proofs.YtcdopgkkieenjaaDoor.V
end

-- ICidrX
section
/- cidr.Parse by hand. -/
namespace Go.Proofs.YtcdopgkkieenjaaDoor.V
open Go.RowKit Go.Proofs.YtcdopgkkieenjaaDoorW.PrintWords Go.Proofs.YtcdopgkkieenjaaDoorW.PrintLast Go.Proofs.YtcdopgkkieenjaaDoorW.PrintMore
set_option linter.unusedVariables false
set_option linter.unusedSimpArgs false

theorem ipOfP_lt {ps : List (List UInt8)} {v : Nat} (h : ipOfP ps = some v) : v < 4294967296 := by
  have lt : ∀ p x, byteOf p = some x → x < 256 := fun p x h => (byteOf_some h).1
  match ps, h with
  | [a, b, c, d], h =>
    simp only [ipOfP] at h
    obtain ⟨x, hx, h⟩ := Option.bind_eq_some_iff.1 h
    obtain ⟨y, hy, h⟩ := Option.bind_eq_some_iff.1 h
    obtain ⟨z, hz, h⟩ := Option.bind_eq_some_iff.1 h
    obtain ⟨u, hu, h⟩ := Option.bind_eq_some_iff.1 h
    have := lt _ _ hx; have := lt _ _ hy; have := lt _ _ hz; have := lt _ _ hu
    have := Option.some.inj h
    omega
theorem parseR_cases (s : ByteArray) : (∃ v : Nat, v < 4294967296 ∧ ipOf s.data.toList = some v ∧ parseR s = ((v : Int), 0)) ∨ (ipOf s.data.toList = none ∧ parseR s = (0, 3)) := by
  unfold parseR
  cases h : ipOf s.data.toList with
  | some v => exact .inl ⟨v, ipOfP_lt h, rfl, rfl⟩
  | none => exact .inr ⟨rfl, rfl⟩
theorem cutB_size (c : UInt8) (s : ByteArray) : (cutB c s).1.size ≤ s.size ∧ (cutB c s).2.1.size ≤ s.size := by
  unfold cutB
  split
  · exact ⟨Nat.le_refl _, Nat.zero_le _⟩
  · simp only [ByteArray.size_extract]
    omega
def cidrParse.T9 : Bool × List (List Nat × List Nat) := (true, [([], []), ([0], [0]), ([1], [1]), ([], []), ([], []), ([3, 4], [3, 4]), ([5], [5]), ([2, 6], [2, 6]), ([7], [7]), ([0, 1, 2, 3, 4, 5, 6, 7, 8], []), ([9, 8, 0, 1, 2, 3, 4, 5, 6, 7, 8], [8, 9])])
def cidrParse.B9 : List Nat := [0, 1, 3, 0, 0, 24, 56, 127, 255, 511, 1023]
theorem cidrParse.tab9 : rtab .any (opsOf Tryd.f37 9) = cidrParse.T9 := by kernel_rfl
theorem cidrParse.bits9 : waitsOk cidrParse.T9.2 cidrParse.B9 = true := by kernel_rfl
set_option maxHeartbeats 4000000 in
set_option maxRecDepth 100000 in
theorem cparse_any (s : ByteArray) (hs : s.size < 4294967281) (w : World) :
    Calls Tryd.prog 37 #[.string s] w fun e w' => e = .returned (.tuple #[.agg #[.int .u32 (cidrR s).1, .int .i64 (cidrR s).2.1], .int .i64 (cidrR s).2.2]) ∧ Below w.heap.size w w' := by
  have hcut := fun w => cut_one s 47 w hs
  have hsz := cutB_size 47 s
  have hR : cidrR s = cidrR s := rfl
  conv at hR => rhs; unfold cidrR
  generalize cutB 47 s = q at hcut hsz hR
  obtain ⟨a, b, ok⟩ := q
  have hpar := fun w => parse_any a (by simp at hsz; omega) w
  have hpc := parseR_cases a
  generalize parseR a = pr at hpar hpc hR
  obtain ⟨ad, er⟩ := pr
  simp only at hcut hpar hR
  by_cases hgood : ok = true ∧ er = 0 ∧ 1 ≤ b.size ∧ b.size ≤ 2
  · obtain ⟨rfl, rfl, hb1, hb2⟩ := hgood
    obtain ⟨v, hv, rfl⟩ : ∃ v : Nat, v < 4294967296 ∧ ad = v := by
      rcases hpc with ⟨v, hv, _, e⟩ | ⟨_, e⟩
      · exact ⟨v, hv, by simpa using (Prod.mk.inj e).1⟩
      · simp at e
    have HP := Aside0.mk (print_f v hv (numB b b.size) 8 (by omega))
    have HV := Aside0.mk hv
    have hb0 : (b.toList == ([] : List UInt8)) = false := by
      rw [Lib.toList_data]
      cases hd : b.data.toList with
      | nil => have := data_length b; rw [hd] at this; simp at this; omega
      | cons x l => rfl
    have hb2' : decide ((b.size : Int) > 2) = false := by simp; omega
    go_enter Tryd.func37, Tryd.ntmps37
    go_wp2_with (first
      | (refine step_allocN (some 2) rfl rfl 46 rfl [.int .u32 0, .int .i64 0] (fun _ => by kernel_rfl) ?_; intro g2 W2 hg2 HB2 hbw2)
      | (refine step_allocN (some 9) rfl rfl 46 rfl [.int .u32 0, .int .i64 0] (fun _ => by kernel_rfl) ?_; intro g9 W5 hg9 HB9 hbw5)
      | (refine step_store rfl 46 (.tmp 9) (.tmp 39) rfl g9 [.int .u32 (v : Int), .int .i64 0] rfl rfl _ _ HB9 2 (by kernel_rfl) rfl rfl (by intro x hx; simp at hx; rcases hx with rfl | rfl <;> rfl) ?_; intro W6 HB6 hg6)
      | (go_at_call 82; refine (hcut _).mono ?_; rintro e W3 ⟨rfl, ⟨nd, rfl⟩⟩)
      | (go_at_call 19; refine (hpar _).mono ?_; rintro e W4 ⟨rfl, hb4⟩))
    have hlt2 := HB2.lt
    have hne : g2 ≠ g9 := by have := hb4.size; have : W2.heap.size ≤ W4.heap.size := hb4.size; omega
    have HB2' := Aside0.mk ((((HB2.drewN nd).below hb4).below hbw5).grown hg6 (by intro h; cases h; exact hne rfl))
    have hsz4 : w.heap.size ≤ W4.heap.size := Nat.le_trans hbw2.size hb4.size
    have HBB := Aside0.mk ((below_step (below_step (pw_below_drewN hbw2 nd) hb4) hbw5).grown hg6 (Nat.le_trans hsz4 hbw5.size) (by intro k hk; cases hk; omega))
    have H9 := Aside0.mk HB6
    have G9 := Aside0.mk (show w.heap.size ≤ g9 by omega)
    have G2 := Aside0.mk hg2
    have NE := Aside0.mk hne
    have HR := Aside0.mk hR
    have HZ := Aside0.mk (And.intro hb1 hb2)
    clear hlt2 hne hsz4 HB2 hbw2 hb4 hbw5 hg6 HB6 HB9 hg9 hg2 hR hcut hpar hpc hb1 hb2
    go_loopw [42] (fun i W => ∃ j : Nat, j ≤ b.size ∧ i = .int .i64 j ∧ Aside0 (Box W g9 [.int .u32 (v : Int), .int .i64 (numB b j)] 46) ∧ Aside0 (Box W g2 [.int .u32 0, .int .i64 0] 46) ∧ Aside0 (Below w.heap.size w W)) (fun i _ => b.size - (intOf i).toNat)
    case atStart => exact ⟨0, by omega, rfl, H9, HB2', HBB⟩
    case round =>
      clear H9 HB2' HBB
      obtain ⟨j, hj, rfl, H9, H2, HBB⟩ := hrel
      obtain ⟨W, rfl⟩ : ∃ W : World, W = wr := ⟨_, rfl⟩
      by_cases hj2 : j < b.size
      · have hjb : decide ((j : Int) < (b.size : Int)) = true := by simp; omega
        have hx := bt_at b (j : Int)
        have hy := bt_range b (j : Int)
        have hn : -48 ≤ numB b j ∧ numB b j ≤ 207 := by
          have h2 := HZ.out.2
          have hy0 := bt_range b ((0 : Nat) : Int)
          match j, hj2 with
          | 0, _ => simp [numB]
          | 1, _ => simp only [numB]; omega
          | j + 2, h => omega
        have HS := Aside0.mk (show numB b (j + 1) = 10 * numB b j + bt b (j : Int) - 48 from rfl)
        have HC := Aside0.mk (And.intro (H9.out.cell 1 _ rfl) (H9.out.frozen 1))
        obtain ⟨x, hxe⟩ : ∃ x, numB b j = x := ⟨_, rfl⟩
        obtain ⟨y, hye⟩ : ∃ y, bt b (j : Int) = y := ⟨_, rfl⟩
        rw [hxe] at hn HC H9 HS
        rw [hye] at hx hy HS
        have HW := Aside0.mk (show wrap64 (wrap64 (wrap64 (10 * x) + wrap64 ((b[j]'hj2).toNat : Int)) - 48) = 10 * x + y - 48 by
          rw [show ((b[j]'hj2).toNat : Int) = y from hx hj2, wrap64_id y (by omega) (by omega), wrap64_id (10 * x) (by omega) (by omega), wrap64_id (10 * x + y) (by omega) (by omega), wrap64_id (10 * x + y - 48) (by omega) (by omega)])
        go_wp2
        refine start_ (n := 11) (S := fun w' => w'.cell? ⟨g9, 1, none⟩ = some (.int .i64 x) ∧ w'.frozen? ⟨g9, 1, none⟩ = false) (ds := [10]) #[false, false, false, false, false, false, false, false, false, false, false] (by kernel_rfl) rfl rfl HC.out (fun hHeld => ?_); refine with_tabW cidrParse.tab9 cidrParse.bits9 (fun HT_ HW_ => ?_)
        refine pure_ (i := 0) (N := some 45) (v := ?_) (a' := ?_) #[true, false, false, false, false, false, false, false, false, false, false] rfl rfl (any_of HT_.out (by kernel_rfl)) (fun _ _ _ h => h) (Or.inl ⟨by rfl, ?_⟩) ?_ ?_
        rotate_left
        · intro w'
          go_simp
          with_reducible rfl
        rotate_left
        · simp only [Act.put, List.setIfInBounds_toArray, List.set_cons_zero, List.set_cons_succ, i64_w, i32_w]
          rfl
        refine take_ (i := 1) (N := some 46) (v := ?_) (a' := ?_) #[true, true, false, false, false, false, false, false, false, false, false] rfl rfl (take_ofW HT_.out HW_.out (by kernel_rfl)) (fun _ _ _ h => h) (Or.inl ⟨by rfl, ?_⟩) hHeld ?_ ?_
        rotate_left
        · intro w' hS_
          obtain ⟨s0, s1⟩ := hS_
          go_simp
          with_reducible rfl
        rotate_left
        · simp only [Act.put, List.setIfInBounds_toArray, List.set_cons_zero, List.set_cons_succ, i64_w, i32_w]
          rfl
        refine pure_ (i := 2) (N := some 47) (v := ?_) (a' := ?_) #[true, true, true, false, false, false, false, false, false, false, false] rfl rfl (any_of HT_.out (by kernel_rfl)) (fun _ _ _ h => h) (Or.inl ⟨by rfl, ?_⟩) ?_ ?_
        rotate_left
        · intro w'
          go_simp
          with_reducible rfl
        rotate_left
        · simp only [Act.put, List.setIfInBounds_toArray, List.set_cons_zero, List.set_cons_succ, i64_w, i32_w]
          rfl
        refine pure_ (i := 3) (N := some 48) (v := ?_) (a' := ?_) #[true, true, true, true, false, false, false, false, false, false, false] rfl rfl (any_of HT_.out (by kernel_rfl)) (fun _ _ _ h => h) (Or.inl ⟨by rfl, ?_⟩) ?_ ?_
        rotate_left
        · intro w'
          go_simp
          with_reducible rfl
        rotate_left
        · simp only [Act.put, List.setIfInBounds_toArray, List.set_cons_zero, List.set_cons_succ, i64_w, i32_w]
          rfl
        refine pure_ (i := 4) (N := some 49) (v := ?_) (a' := ?_) #[true, true, true, true, true, false, false, false, false, false, false] rfl rfl (any_of HT_.out (by kernel_rfl)) (fun _ _ _ h => h) (Or.inl ⟨by rfl, ?_⟩) ?_ ?_
        rotate_left
        · intro w'
          go_simp
          with_reducible rfl
        rotate_left
        · simp only [Act.put, List.setIfInBounds_toArray, List.set_cons_zero, List.set_cons_succ, i64_w, i32_w]
          rfl
        refine pure_ (i := 5) (N := some 50) (v := ?_) (a' := ?_) #[true, true, true, true, true, true, false, false, false, false, false] rfl rfl (any_of HT_.out (by kernel_rfl)) (fun _ _ _ h => h) (Or.inl ⟨by rfl, ?_⟩) ?_ ?_
        rotate_left
        · intro w'
          go_simp
          with_reducible rfl
        rotate_left
        · simp only [Act.put, List.setIfInBounds_toArray, List.set_cons_zero, List.set_cons_succ, i64_w, i32_w]
          rfl
        refine pure_ (i := 6) (N := some 51) (v := ?_) (a' := ?_) #[true, true, true, true, true, true, true, false, false, false, false] rfl rfl (any_of HT_.out (by kernel_rfl)) (fun _ _ _ h => h) (Or.inl ⟨by rfl, ?_⟩) ?_ ?_
        rotate_left
        · intro w'
          go_simp
          with_reducible rfl
        rotate_left
        · simp only [Act.put, List.setIfInBounds_toArray, List.set_cons_zero, List.set_cons_succ, i64_w, i32_w]
          rfl
        refine pure_ (i := 7) (N := some 52) (v := ?_) (a' := ?_) #[true, true, true, true, true, true, true, true, false, false, false] rfl rfl (any_of HT_.out (by kernel_rfl)) (fun _ _ _ h => h) (Or.inl ⟨by rfl, ?_⟩) ?_ ?_
        rotate_left
        · intro w'
          go_simp
          with_reducible rfl
        rotate_left
        · simp only [Act.put, List.setIfInBounds_toArray, List.set_cons_zero, List.set_cons_succ, i64_w, i32_w]
          rfl
        refine pure_ (i := 8) (N := some 53) (v := ?_) (a' := ?_) #[true, true, true, true, true, true, true, true, true, false, false] rfl rfl (any_of HT_.out (by kernel_rfl)) (fun _ _ _ h => h) (Or.inl ⟨by rfl, ?_⟩) ?_ ?_
        rotate_left
        · intro w'
          go_simp
          with_reducible rfl
        rotate_left
        · simp only [Act.put, List.setIfInBounds_toArray, List.set_cons_zero, List.set_cons_succ, i64_w, i32_w]
          rfl
        refine pure_ (i := 9) (N := some 54) (v := ?_) (a' := ?_) #[true, true, true, true, true, true, true, true, true, true, false] rfl rfl (any_of HT_.out (by kernel_rfl)) (fun _ _ _ h => h) (Or.inl ⟨by rfl, ?_⟩) ?_ ?_
        rotate_left
        · intro w'
          go_simp
          with_reducible rfl
        rotate_left
        · simp only [Act.put, List.setIfInBounds_toArray, List.set_cons_zero, List.set_cons_succ, i64_w, i32_w]
          rfl
        refine last_ (i := 10) (N := none) #[true, true, true, true, true, true, true, true, true, true, true] rfl rfl (one_of HT_.out (by kernel_rfl)) (by decide) (fun K hK => ?_)
        obtain ⟨s0_, s1_⟩ := hHeld
        refine skip_ (w1 := ?_) (by rfl) rfl ?_ ?_
        rotate_left
        · go_simp
          rfl
        refine hK.out _ _ ?_
        clear hK K
        refine done_ (done_of HT_.out (by kernel_rfl)) ?_
        rw [HW.out]
        go_wp2
        refine ⟨⟨j + 1, by omega, by go_num, ⟨?_⟩, ⟨(H2.out.far (by simpa using NE.out) _)⟩, ⟨below_drew1 (HBB.out.setCell (by simpa using G9.out) _)⟩⟩, by simp [intOf]; omega⟩
        rw [HS.out]
        exact H9.out.set 1 _
      · have hjb : decide ((j : Int) < (b.size : Int)) = false := by simp; omega
        obtain rfl : j = b.size := by omega
        have hlz := HZ.out
        by_cases hq : netText v (numB b b.size) = s
        · have HE := Aside0.mk (show cidrR s = ((v : Int), numB b b.size, 0) by rw [HR.out]; simp [hq, hlz.1, hlz.2])
          have hqb : ((netText v (numB b b.size)).toList == s.toList) = true := by rw [hq]; simp
          go_wp2_with (first
            | (refine step_load rfl _ (.tmp 9) rfl g9 rfl _ _ _ H9.out Tryd.underlying46 rfl 2 (by kernel_rfl) rfl ?_)
            | (go_at_call 32; refine (cidr_Print.calls 8 _ _ _ _ HP.out).mono ?_; rintro e W7 ⟨rfl, hb7⟩; have H97 := Aside0.mk (H9.out.below hb7); have H27 := Aside0.mk (H2.out.below hb7); have HB7 := Aside0.mk (below_step HBB.out hb7); clear hb7)
            | (refine step_load rfl _ (.tmp 9) rfl g9 rfl _ _ _ H97.out Tryd.underlying46 rfl 2 (by kernel_rfl) rfl ?_)
            | (refine step_store rfl 46 (.tmp 2) (.tmp 61) rfl g2 _ rfl rfl _ _ H27.out 2 (by kernel_rfl) rfl rfl (by intro x hx; simp at hx; rcases hx with rfl | rfl <;> rfl) ?_; intro W8 HB8 hg8))
          exact bodyPost_ret (results_ct rfl _ _ g2 46 _ (0, 0) _ rfl HB8 Tryd.underlying46 rfl (by kernel_rfl)) rfl ⟨by rw [HE.out]; rfl, HB7.out.grown hg8 HB7.out.size (by intro k hk; cases hk; exact G2.out)⟩
        · have HE := Aside0.mk (show cidrR s = (0, 0, 3) by rw [HR.out]; simp [hq])
          have hqb : ((netText v (numB b b.size)).toList == s.toList) = false := by
            simp only [beq_eq_false_iff_ne, ne_eq]
            intro h
            exact hq (data_ext (of_toList h))
          go_wp2_with (first
            | (refine step_load rfl _ (.tmp 9) rfl g9 rfl _ _ _ H9.out Tryd.underlying46 rfl 2 (by kernel_rfl) rfl ?_)
            | (go_at_call 32; refine (cidr_Print.calls 8 _ _ _ _ HP.out).mono ?_; rintro e W7 ⟨rfl, hb7⟩; have H97 := Aside0.mk (H9.out.below hb7); have H27 := Aside0.mk (H2.out.below hb7); have HB7 := Aside0.mk (below_step HBB.out hb7); clear hb7)
            | (refine step_store rfl 46 (.tmp 2) (.tmp 60) rfl g2 [.int .u32 0, .int .i64 0] rfl rfl _ _ H27.out 2 (by kernel_rfl) rfl rfl (by intro x hx; simp at hx; rcases hx with rfl | rfl <;> rfl) ?_; intro W8 HB8 hg8))
          exact bodyPost_ret (results_ct rfl _ _ g2 46 _ (0, 0) _ rfl HB8 Tryd.underlying46 rfl (by kernel_rfl)) rfl ⟨by rw [HE.out]; rfl, HB7.out.grown hg8 HB7.out.size (by intro k hk; cases hk; exact G2.out)⟩
  · have HE := Aside0.mk (show cidrR s = (0, 0, 3) by rw [hR, if_neg (by rintro ⟨h1, h2, h3, h4, _⟩; exact hgood ⟨h1, h2, h3, h4⟩)])
    clear hR
    cases ok with
    | false =>
      go_enter Tryd.func37, Tryd.ntmps37
      go_wp2_with (first
        | (refine step_allocN (some 2) rfl rfl 46 rfl [.int .u32 0, .int .i64 0] (fun _ => by kernel_rfl) ?_; intro g2 W2 hg2 HB2 hbw2)
        | (go_at_call 82; refine (hcut _).mono ?_; rintro e W3 ⟨rfl, ⟨nd, rfl⟩⟩)
        | (go_at_call 19; refine (hpar _).mono ?_; rintro e W4 ⟨rfl, hb4⟩)
        | (refine step_store rfl 46 (.tmp 2) (.tmp 37) rfl g2 [.int .u32 0, .int .i64 0] rfl rfl _ _ ((HB2.drewN nd).below hb4) 2 (by kernel_rfl) rfl rfl (by intro x hx; simp at hx; rcases hx with rfl | rfl <;> rfl) ?_; intro W8 HB8 hg8))
      exact bodyPost_ret (results_ct rfl _ _ g2 46 _ (0, 0) _ rfl HB8 Tryd.underlying46 rfl (by kernel_rfl)) rfl ⟨by rw [HE.out]; rfl, (below_step (pw_below_drewN hbw2 nd) hb4).grown hg8 (Nat.le_trans hbw2.size hb4.size) (by intro k hk; cases hk; exact hg2)⟩
    | true =>
      rcases hpc with ⟨v, hv, _, e⟩ | ⟨_, e⟩
      · obtain ⟨rfl, rfl⟩ := Prod.mk.inj e
        by_cases h0 : b.size = 0
        · have hb0 : (b.toList == ([] : List UInt8)) = true := by
            rw [Lib.toList_data]
            cases hd : b.data.toList with
            | nil => rfl
            | cons x l => have := data_length b; rw [hd] at this; simp at this; omega
          go_enter Tryd.func37, Tryd.ntmps37
          go_wp2_with (first
            | (refine step_allocN (some 2) rfl rfl 46 rfl [.int .u32 0, .int .i64 0] (fun _ => by kernel_rfl) ?_; intro g2 W2 hg2 HB2 hbw2)
            | (go_at_call 82; refine (hcut _).mono ?_; rintro e W3 ⟨rfl, ⟨nd, rfl⟩⟩)
            | (go_at_call 19; refine (hpar _).mono ?_; rintro e W4 ⟨rfl, hb4⟩)
            | (refine step_store rfl 46 (.tmp 2) (.tmp 37) rfl g2 [.int .u32 0, .int .i64 0] rfl rfl _ _ ((HB2.drewN nd).below hb4) 2 (by kernel_rfl) rfl rfl (by intro x hx; simp at hx; rcases hx with rfl | rfl <;> rfl) ?_; intro W8 HB8 hg8))
          exact bodyPost_ret (results_ct rfl _ _ g2 46 _ (0, 0) _ rfl HB8 Tryd.underlying46 rfl (by kernel_rfl)) rfl ⟨by rw [HE.out]; rfl, (below_step (pw_below_drewN hbw2 nd) hb4).grown hg8 (Nat.le_trans hbw2.size hb4.size) (by intro k hk; cases hk; exact hg2)⟩
        · have hb0 : (b.toList == ([] : List UInt8)) = false := by
            rw [Lib.toList_data]
            cases hd : b.data.toList with
            | nil => have := data_length b; rw [hd] at this; simp at this; omega
            | cons x l => rfl
          have hb2' : decide ((b.size : Int) > 2) = true := by
            simp
            by_cases h3 : b.size ≤ 2
            · exact absurd ⟨rfl, rfl, by omega, h3⟩ hgood
            · omega
          go_enter Tryd.func37, Tryd.ntmps37
          go_wp2_with (first
            | (refine step_allocN (some 2) rfl rfl 46 rfl [.int .u32 0, .int .i64 0] (fun _ => by kernel_rfl) ?_; intro g2 W2 hg2 HB2 hbw2)
            | (go_at_call 82; refine (hcut _).mono ?_; rintro e W3 ⟨rfl, ⟨nd, rfl⟩⟩)
            | (go_at_call 19; refine (hpar _).mono ?_; rintro e W4 ⟨rfl, hb4⟩)
            | (refine step_store rfl 46 (.tmp 2) (.tmp 37) rfl g2 [.int .u32 0, .int .i64 0] rfl rfl _ _ ((HB2.drewN nd).below hb4) 2 (by kernel_rfl) rfl rfl (by intro x hx; simp at hx; rcases hx with rfl | rfl <;> rfl) ?_; intro W8 HB8 hg8))
          exact bodyPost_ret (results_ct rfl _ _ g2 46 _ (0, 0) _ rfl HB8 Tryd.underlying46 rfl (by kernel_rfl)) rfl ⟨by rw [HE.out]; rfl, (below_step (pw_below_drewN hbw2 nd) hb4).grown hg8 (Nat.le_trans hbw2.size hb4.size) (by intro k hk; cases hk; exact hg2)⟩
      · obtain ⟨rfl, rfl⟩ := Prod.mk.inj e
        go_enter Tryd.func37, Tryd.ntmps37
        go_wp2_with (first
          | (refine step_allocN (some 2) rfl rfl 46 rfl [.int .u32 0, .int .i64 0] (fun _ => by kernel_rfl) ?_; intro g2 W2 hg2 HB2 hbw2)
          | (go_at_call 82; refine (hcut _).mono ?_; rintro e W3 ⟨rfl, ⟨nd, rfl⟩⟩)
          | (go_at_call 19; refine (hpar _).mono ?_; rintro e W4 ⟨rfl, hb4⟩)
          | (refine step_store rfl 46 (.tmp 2) (.tmp 37) rfl g2 [.int .u32 0, .int .i64 0] rfl rfl _ _ ((HB2.drewN nd).below hb4) 2 (by kernel_rfl) rfl rfl (by intro x hx; simp at hx; rcases hx with rfl | rfl <;> rfl) ?_; intro W8 HB8 hg8))
        exact bodyPost_ret (results_ct rfl _ _ g2 46 _ (0, 0) _ rfl HB8 Tryd.underlying46 rfl (by kernel_rfl)) rfl ⟨by rw [HE.out]; rfl, (below_step (pw_below_drewN hbw2 nd) hb4).grown hg8 (Nat.le_trans hbw2.size hb4.size) (by intro k hk; cases hk; exact hg2)⟩
end Go.Proofs.YtcdopgkkieenjaaDoor.V
end

-- ICidrMan
section
/- cidr.Parse in the print's own form. -/
namespace Go.Proofs.YtcdopgkkieenjaaDoor.V
open Go.RowKit Go.Proofs.YtcdopgkkieenjaaDoorW.PrintWords Go.Proofs.YtcdopgkkieenjaaDoorW.PrintLast Go.Proofs.YtcdopgkkieenjaaDoorW.PrintMore
set_option linter.unusedVariables false

def cidr_Parse.f (a0 : ByteArray) : Option (Int × Int × Int) := if a0.size < 4294967281 then some (cidrR a0) else none
theorem cidr_Parse.calls (a0 : ByteArray) (r1 r2 r3 : Int) (w : World) (h : cidr_Parse.f a0 = some (r1, r2, r3)) :
    Calls Tryd.prog 37 #[.string a0] w fun e w' => e = .returned (.tuple #[.agg #[.int .u32 r1, .int .i64 r2], .int .i64 r3]) ∧ Below w.heap.size w w' := by
  unfold cidr_Parse.f at h
  split at h
  · rename_i hr
    have e := Option.some.inj h
    refine (cparse_any a0 hr w).mono fun e' w' ⟨h1, h2⟩ => ⟨?_, h2⟩
    rw [h1, e]
  · cases h
end Go.Proofs.YtcdopgkkieenjaaDoor.V
end

-- VFCidrNetCount
section
-- PRINTED by print.py (a twelfth state) out of the translation. Not trusted: Lean checks it.
namespace Go.Proofs.YtcdopgkkieenjaaDoor.V
open Go.RowKit Go.Proofs.YtcdopgkkieenjaaDoorW.PrintWords Go.Proofs.YtcdopgkkieenjaaDoorW.PrintLast Go.Proofs.YtcdopgkkieenjaaDoorW.PrintMore
attribute [local go_sem] max2_int min2_int max_two min_two max_three min_three max_four min_four   -- for this text's walks alone
set_option linter.unusedVariables false
set_option linter.unusedSimpArgs false

/-! ### cidr_Net_Count: function 48 -/
def cidr_Net_Count.f (a0_0 : Int) (a0_1 : Int) (a1 : Int) : Option (Int) := (cidr_May.f a0_0 a0_1).bind fun t48102 => (if t48102 = true then (if a1 < a0_1 then (some 0) else (if a1 > 32 then (some 0) else (if 0 ≤ (wrap64 (a1 - a0_1)) then (some (shl .i64 1 (wrap64 (a1 - a0_1)))) else (none)))) else (some 0))
set_option maxHeartbeats 8000000 in
set_option maxRecDepth 100000 in
theorem cidr_Net_Count.calls (a0_0 : Int) (a0_1 : Int) (a1 : Int) (r : Int) (w : World) (h : cidr_Net_Count.f a0_0 a0_1 a1 = some r) :
    Calls Tryd.prog 48 #[.agg #[.int .u32 a0_0, .int .i64 a0_1], .int .i64 a1] w fun e w' => e = .returned (.int .i64 r) ∧ Below w.heap.size w w' := by
  have hu46 := Tryd.underlying46
  have HB := Aside0.mk (Below.refl w.heap.size w)
  have H : ((cidr_May.f a0_0 a0_1).bind fun t48102 => (if t48102 = true then (if a1 < a0_1 then (some 0) else (if a1 > 32 then (some 0) else (if 0 ≤ (wrap64 (a1 - a0_1)) then (some (shl .i64 1 (wrap64 (a1 - a0_1)))) else (none)))) else (some 0))) = some r := h
  clear h
  replace H := Option.bind_eq_some_iff.mp H
  obtain ⟨t48102, A30, H⟩ := H
  replace H : (if t48102 = true then (if a1 < a0_1 then (some 0) else (if a1 > 32 then (some 0) else (if 0 ≤ (wrap64 (a1 - a0_1)) then (some (shl .i64 1 (wrap64 (a1 - a0_1)))) else (none)))) else (some 0)) = some r := H
  have A3 := Aside0.mk A30
  clear A30
  by_cases c4 : t48102 = true
  · subst c4
    have H1 : (if a1 < a0_1 then (some 0) else (if a1 > 32 then (some 0) else (if 0 ≤ (wrap64 (a1 - a0_1)) then (some (shl .i64 1 (wrap64 (a1 - a0_1)))) else (none)))) = some r := by rw [if_pos rfl] at H; exact H
    clear H
    have H := H1
    clear H1
    by_cases c5 : a1 < a0_1
    · rw [if_pos c5] at H
      have c5b0 : decide (a1 < a0_1) = true := decide_eq_true c5
      clear c5
      obtain rfl := Option.some.inj H
      go_enter Tryd.func48, Tryd.ntmps48
      go_wp2_with (first | ((with_reducible refine gate_dst (N := 2) rfl ?_); refine box_event ?hg (N := 2) ?hd (cs := #[.int .u32 a0_0, .int .i64 a0_1]) (t := 46) ?hr ?_; (case hd => rfl); (case hg => rfl); (case hr => first | (go_simp; done) | (go_simp; rfl)); intro gb48101 hg w6 hbox hb; have n0_ := Aside0.mk (below_step (by repeat (first | (with_reducible first | exact HB.out | apply below_alloc | apply pw_below_drewN | apply below_drew1) | exact HB.out)) hb); have n1_ := Aside0.mk (hbox); have n2_ := Aside0.mk ((by rw [hg]; exact (below_size (by repeat (first | (with_reducible first | exact HB.out | apply below_alloc | apply pw_below_drewN | apply below_drew1) | exact HB.out))) : w.heap.size ≤ gb48101)); have n3_ := Aside0.mk ((by rw [hg]; exact (below_size (by repeat (first | (with_reducible first | exact HB.out | apply below_alloc | apply pw_below_drewN | apply below_drew1) | exact HB.out))) : w.heap.size ≤ gb48101)); clear HB; have HB := n0_; have BK48101 := n1_; have GW48101 := n2_; have GE48101 := n3_; clear n0_ n1_ n2_ n3_; clear hb hbox hg; have hcz7_0 : w6.cell? ⟨gb48101, 0, none⟩ = some (.int .u32 a0_0) := (blk_cell BK48101.out 0).trans rfl; have hcz7_1 : w6.cell? ⟨gb48101, 1, none⟩ = some (.int .i64 a0_1) := (blk_cell BK48101.out 1).trans rfl; have hfz7_0 := blk_frozen BK48101.out 0; have hfz7_1 := blk_frozen BK48101.out 1) | ((with_reducible refine gate_callee (f := 34) rfl ?_); refine goesL_ (some 6) rfl rfl Tryd.func34 (by kernel_rfl) rfl #[.agg #[.int .u32 a0_0, .int .i64 a0_1]] rfl (by (try simp only [List.map_toArray, List.map_cons, List.map_nil]); first | done | rfl | (simp only [List.length_drop, List.length_take]; rfl)) ?_; (with_reducible refine (cidr_May.calls a0_0 a0_1 true _ A3.out).mono ?_); rintro e w8 ⟨rfl, hb⟩; refine ⟨_, rfl, ?_⟩; have n0_ := Aside0.mk (blk_below (g := gb48101) (o := .cells #[.int .u32 a0_0, .int .i64 a0_1] 46 (0, 0)) (by (with_reducible repeat (first | refine blk_drewN ?_ _ | refine blk_drew ?_ | refine blk_alloc ?_ _)); exact BK48101.out) hb); have n1_ := Aside0.mk (below_step (by repeat (first | (with_reducible first | exact HB.out | apply below_alloc | apply pw_below_drewN | apply below_drew1 | refine below_set ?_ GE48101.out) | exact HB.out)) hb); clear BK48101; clear HB; have BK48101 := n0_; have HB := n1_; clear n0_ n1_; (try clear hb); (try clear hb2); (try clear hk); (try clear hi); have hcz9_0 : w8.cell? ⟨gb48101, 0, none⟩ = some (.int .u32 a0_0) := (blk_cell BK48101.out 0).trans rfl; have hcz9_1 : w8.cell? ⟨gb48101, 1, none⟩ = some (.int .i64 a0_1) := (blk_cell BK48101.out 1).trans rfl; have hfz9_0 := blk_frozen BK48101.out 0; have hfz9_1 := blk_frozen BK48101.out 1))
      go_ret
      exact ⟨by first | rfl | (simp [errW_none, errW_some] <;> rfl) | (simp [*, errW_none, errW_some] <;> rfl), by repeat (first | (with_reducible first | exact HB.out | apply below_alloc | apply pw_below_drewN | apply below_drew1 | refine below_set ?_ GE48101.out) | exact HB.out)⟩
    · rw [if_neg c5] at H
      have c5b0 : decide (a1 < a0_1) = false := decide_eq_false c5
      clear c5
      by_cases c10 : a1 > 32
      · rw [if_pos c10] at H
        have c10b0 : decide (32 < a1) = true := decide_eq_true c10
        clear c10
        obtain rfl := Option.some.inj H
        go_enter Tryd.func48, Tryd.ntmps48
        go_wp2_with (first | ((with_reducible refine gate_dst (N := 2) rfl ?_); refine box_event ?hg (N := 2) ?hd (cs := #[.int .u32 a0_0, .int .i64 a0_1]) (t := 46) ?hr ?_; (case hd => rfl); (case hg => rfl); (case hr => first | (go_simp; done) | (go_simp; rfl)); intro gb48101 hg w11 hbox hb; have n0_ := Aside0.mk (below_step (by repeat (first | (with_reducible first | exact HB.out | apply below_alloc | apply pw_below_drewN | apply below_drew1) | exact HB.out)) hb); have n1_ := Aside0.mk (hbox); have n2_ := Aside0.mk ((by rw [hg]; exact (below_size (by repeat (first | (with_reducible first | exact HB.out | apply below_alloc | apply pw_below_drewN | apply below_drew1) | exact HB.out))) : w.heap.size ≤ gb48101)); have n3_ := Aside0.mk ((by rw [hg]; exact (below_size (by repeat (first | (with_reducible first | exact HB.out | apply below_alloc | apply pw_below_drewN | apply below_drew1) | exact HB.out))) : w.heap.size ≤ gb48101)); clear HB; have HB := n0_; have BK48101 := n1_; have GW48101 := n2_; have GE48101 := n3_; clear n0_ n1_ n2_ n3_; clear hb hbox hg; have hcz12_0 : w11.cell? ⟨gb48101, 0, none⟩ = some (.int .u32 a0_0) := (blk_cell BK48101.out 0).trans rfl; have hcz12_1 : w11.cell? ⟨gb48101, 1, none⟩ = some (.int .i64 a0_1) := (blk_cell BK48101.out 1).trans rfl; have hfz12_0 := blk_frozen BK48101.out 0; have hfz12_1 := blk_frozen BK48101.out 1) | ((with_reducible refine gate_callee (f := 34) rfl ?_); refine goesL_ (some 6) rfl rfl Tryd.func34 (by kernel_rfl) rfl #[.agg #[.int .u32 a0_0, .int .i64 a0_1]] rfl (by (try simp only [List.map_toArray, List.map_cons, List.map_nil]); first | done | rfl | (simp only [List.length_drop, List.length_take]; rfl)) ?_; (with_reducible refine (cidr_May.calls a0_0 a0_1 true _ A3.out).mono ?_); rintro e w13 ⟨rfl, hb⟩; refine ⟨_, rfl, ?_⟩; have n0_ := Aside0.mk (blk_below (g := gb48101) (o := .cells #[.int .u32 a0_0, .int .i64 a0_1] 46 (0, 0)) (by (with_reducible repeat (first | refine blk_drewN ?_ _ | refine blk_drew ?_ | refine blk_alloc ?_ _)); exact BK48101.out) hb); have n1_ := Aside0.mk (below_step (by repeat (first | (with_reducible first | exact HB.out | apply below_alloc | apply pw_below_drewN | apply below_drew1 | refine below_set ?_ GE48101.out) | exact HB.out)) hb); clear BK48101; clear HB; have BK48101 := n0_; have HB := n1_; clear n0_ n1_; (try clear hb); (try clear hb2); (try clear hk); (try clear hi); have hcz14_0 : w13.cell? ⟨gb48101, 0, none⟩ = some (.int .u32 a0_0) := (blk_cell BK48101.out 0).trans rfl; have hcz14_1 : w13.cell? ⟨gb48101, 1, none⟩ = some (.int .i64 a0_1) := (blk_cell BK48101.out 1).trans rfl; have hfz14_0 := blk_frozen BK48101.out 0; have hfz14_1 := blk_frozen BK48101.out 1))
        go_ret
        exact ⟨by first | rfl | (simp [errW_none, errW_some] <;> rfl) | (simp [*, errW_none, errW_some] <;> rfl), by repeat (first | (with_reducible first | exact HB.out | apply below_alloc | apply pw_below_drewN | apply below_drew1 | refine below_set ?_ GE48101.out) | exact HB.out)⟩
      · rw [if_neg c10] at H
        have c10b0 : decide (32 < a1) = false := decide_eq_false c10
        clear c10
        obtain ⟨ji15, hji15⟩ : ∃ j_ : Int, (wrap64 (a1 - a0_1)) = j_ := ⟨_, rfl⟩
        replace H : (if 0 ≤ (ji15) then (some (shl .i64 1 (ji15))) else (none)) = some r := by first | (rw [hji15] at H; exact H) | (simp only [hji15] at H ⊢; exact H)
        (try rw [hji15] at A3)
        have hji15w : (IntKind.i64.wrap (a1 - a0_1)) = ji15 := (i64_w _).trans hji15
        by_cases c16 : 0 ≤ (ji15)
        · rw [if_pos c16] at H
          have c16b0 := eq_true c16
          have c16b1 : decide (0 ≤ (ji15)) = true := decide_eq_true c16
          clear c16
          obtain ⟨ji17, hji17⟩ : ∃ j_ : Int, (shl .i64 1 (ji15)) = j_ := ⟨_, rfl⟩
          replace H : (some ji17) = some r := by first | (rw [hji17] at H; exact H) | (simp only [hji17] at H ⊢; exact H)
          (try rw [hji17] at A3)
          have hji17_ : (IntKind.i64.wrap (1 * 2 ^ min (ji15).toNat 64)) = ji17 := hji17
          have hji17z : (ji15) ≤ 64 → (IntKind.i64.wrap (1 * 2 ^ (ji15).toNat)) = ji17 := shl_small hji17
          have hji17u : (IntKind.i64.wrap (2 ^ min (ji15).toNat 64)) = ji17 := by have h_ := hji17_; rw [Int.one_mul] at h_; exact h_
          have hji17v : (ji15) ≤ 64 → (IntKind.i64.wrap (2 ^ (ji15).toNat)) = ji17 := fun hle_ => by have h_ := hji17z hle_; rw [Int.one_mul] at h_; exact h_
          have hji17y : (wrap64 (1 * 2 ^ min (ji15).toNat 64)) = ji17 := (i64_w _).symm.trans hji17_
          have hji17x : (ji15) ≤ 64 → (wrap64 (1 * 2 ^ (ji15).toNat)) = ji17 := fun h_ => (i64_w _).symm.trans (hji17z h_)
          obtain rfl := Option.some.inj H
          go_enter Tryd.func48, Tryd.ntmps48
          go_wp2_with (first | ((with_reducible refine gate_dst (N := 2) rfl ?_); refine box_event ?hg (N := 2) ?hd (cs := #[.int .u32 a0_0, .int .i64 a0_1]) (t := 46) ?hr ?_; (case hd => rfl); (case hg => rfl); (case hr => first | (go_simp; done) | (go_simp; rfl)); intro gb48101 hg w18 hbox hb; have n0_ := Aside0.mk (below_step (by repeat (first | (with_reducible first | exact HB.out | apply below_alloc | apply pw_below_drewN | apply below_drew1) | exact HB.out)) hb); have n1_ := Aside0.mk (hbox); have n2_ := Aside0.mk ((by rw [hg]; exact (below_size (by repeat (first | (with_reducible first | exact HB.out | apply below_alloc | apply pw_below_drewN | apply below_drew1) | exact HB.out))) : w.heap.size ≤ gb48101)); have n3_ := Aside0.mk ((by rw [hg]; exact (below_size (by repeat (first | (with_reducible first | exact HB.out | apply below_alloc | apply pw_below_drewN | apply below_drew1) | exact HB.out))) : w.heap.size ≤ gb48101)); clear HB; have HB := n0_; have BK48101 := n1_; have GW48101 := n2_; have GE48101 := n3_; clear n0_ n1_ n2_ n3_; clear hb hbox hg; have hcz19_0 : w18.cell? ⟨gb48101, 0, none⟩ = some (.int .u32 a0_0) := (blk_cell BK48101.out 0).trans rfl; have hcz19_1 : w18.cell? ⟨gb48101, 1, none⟩ = some (.int .i64 a0_1) := (blk_cell BK48101.out 1).trans rfl; have hfz19_0 := blk_frozen BK48101.out 0; have hfz19_1 := blk_frozen BK48101.out 1) | ((with_reducible refine gate_callee (f := 34) rfl ?_); refine goesL_ (some 6) rfl rfl Tryd.func34 (by kernel_rfl) rfl #[.agg #[.int .u32 a0_0, .int .i64 a0_1]] rfl (by (try simp only [List.map_toArray, List.map_cons, List.map_nil]); first | done | rfl | (simp only [List.length_drop, List.length_take]; rfl)) ?_; (with_reducible refine (cidr_May.calls a0_0 a0_1 true _ A3.out).mono ?_); rintro e w20 ⟨rfl, hb⟩; refine ⟨_, rfl, ?_⟩; have n0_ := Aside0.mk (blk_below (g := gb48101) (o := .cells #[.int .u32 a0_0, .int .i64 a0_1] 46 (0, 0)) (by (with_reducible repeat (first | refine blk_drewN ?_ _ | refine blk_drew ?_ | refine blk_alloc ?_ _)); exact BK48101.out) hb); have n1_ := Aside0.mk (below_step (by repeat (first | (with_reducible first | exact HB.out | apply below_alloc | apply pw_below_drewN | apply below_drew1 | refine below_set ?_ GE48101.out) | exact HB.out)) hb); clear BK48101; clear HB; have BK48101 := n0_; have HB := n1_; clear n0_ n1_; (try clear hb); (try clear hb2); (try clear hk); (try clear hi); have hcz21_0 : w20.cell? ⟨gb48101, 0, none⟩ = some (.int .u32 a0_0) := (blk_cell BK48101.out 0).trans rfl; have hcz21_1 : w20.cell? ⟨gb48101, 1, none⟩ = some (.int .i64 a0_1) := (blk_cell BK48101.out 1).trans rfl; have hfz21_0 := blk_frozen BK48101.out 0; have hfz21_1 := blk_frozen BK48101.out 1))
          go_ret
          exact ⟨by first | rfl | (simp [errW_none, errW_some] <;> rfl) | (simp only [← hji15, ← hji17]; first | rfl | (simp [errW_none, errW_some] <;> rfl)) | (simp [*, errW_none, errW_some] <;> rfl), by repeat (first | (with_reducible first | exact HB.out | apply below_alloc | apply pw_below_drewN | apply below_drew1 | refine below_set ?_ GE48101.out) | exact HB.out)⟩
        · rw [if_neg c16] at H
          exact absurd H (by simp)
  · replace c4 := Bool.eq_false_iff.mpr c4
    subst c4
    have H1 : (some 0) = some r := by rw [if_neg (show ¬ (false = true) by decide)] at H; exact H
    clear H
    have H := H1
    clear H1
    obtain rfl := Option.some.inj H
    go_enter Tryd.func48, Tryd.ntmps48
    go_wp2_with (first | ((with_reducible refine gate_dst (N := 2) rfl ?_); refine box_event ?hg (N := 2) ?hd (cs := #[.int .u32 a0_0, .int .i64 a0_1]) (t := 46) ?hr ?_; (case hd => rfl); (case hg => rfl); (case hr => first | (go_simp; done) | (go_simp; rfl)); intro gb48101 hg w22 hbox hb; have n0_ := Aside0.mk (below_step (by repeat (first | (with_reducible first | exact HB.out | apply below_alloc | apply pw_below_drewN | apply below_drew1) | exact HB.out)) hb); have n1_ := Aside0.mk (hbox); have n2_ := Aside0.mk ((by rw [hg]; exact (below_size (by repeat (first | (with_reducible first | exact HB.out | apply below_alloc | apply pw_below_drewN | apply below_drew1) | exact HB.out))) : w.heap.size ≤ gb48101)); have n3_ := Aside0.mk ((by rw [hg]; exact (below_size (by repeat (first | (with_reducible first | exact HB.out | apply below_alloc | apply pw_below_drewN | apply below_drew1) | exact HB.out))) : w.heap.size ≤ gb48101)); clear HB; have HB := n0_; have BK48101 := n1_; have GW48101 := n2_; have GE48101 := n3_; clear n0_ n1_ n2_ n3_; clear hb hbox hg; have hcz23_0 : w22.cell? ⟨gb48101, 0, none⟩ = some (.int .u32 a0_0) := (blk_cell BK48101.out 0).trans rfl; have hcz23_1 : w22.cell? ⟨gb48101, 1, none⟩ = some (.int .i64 a0_1) := (blk_cell BK48101.out 1).trans rfl; have hfz23_0 := blk_frozen BK48101.out 0; have hfz23_1 := blk_frozen BK48101.out 1) | ((with_reducible refine gate_callee (f := 34) rfl ?_); refine goesL_ (some 6) rfl rfl Tryd.func34 (by kernel_rfl) rfl #[.agg #[.int .u32 a0_0, .int .i64 a0_1]] rfl (by (try simp only [List.map_toArray, List.map_cons, List.map_nil]); first | done | rfl | (simp only [List.length_drop, List.length_take]; rfl)) ?_; (with_reducible refine (cidr_May.calls a0_0 a0_1 false _ A3.out).mono ?_); rintro e w24 ⟨rfl, hb⟩; refine ⟨_, rfl, ?_⟩; have n0_ := Aside0.mk (blk_below (g := gb48101) (o := .cells #[.int .u32 a0_0, .int .i64 a0_1] 46 (0, 0)) (by (with_reducible repeat (first | refine blk_drewN ?_ _ | refine blk_drew ?_ | refine blk_alloc ?_ _)); exact BK48101.out) hb); have n1_ := Aside0.mk (below_step (by repeat (first | (with_reducible first | exact HB.out | apply below_alloc | apply pw_below_drewN | apply below_drew1 | refine below_set ?_ GE48101.out) | exact HB.out)) hb); clear BK48101; clear HB; have BK48101 := n0_; have HB := n1_; clear n0_ n1_; (try clear hb); (try clear hb2); (try clear hk); (try clear hi)))
    go_ret
    exact ⟨by first | rfl | (simp [errW_none, errW_some] <;> rfl) | (simp [*, errW_none, errW_some] <;> rfl), by repeat (first | (with_reducible first | exact HB.out | apply below_alloc | apply pw_below_drewN | apply below_drew1 | refine below_set ?_ GE48101.out) | exact HB.out)⟩
end Go.Proofs.YtcdopgkkieenjaaDoor.V
end

-- VFCidrNetNth
section
-- PRINTED by print.py (a twelfth state) out of the translation. Not trusted: Lean checks it.
namespace Go.Proofs.YtcdopgkkieenjaaDoor.V
open Go.RowKit Go.Proofs.YtcdopgkkieenjaaDoorW.PrintWords Go.Proofs.YtcdopgkkieenjaaDoorW.PrintLast Go.Proofs.YtcdopgkkieenjaaDoorW.PrintMore
attribute [local go_sem] max2_int min2_int max_two min_two max_three min_three max_four min_four   -- for this text's walks alone
set_option linter.unusedVariables false
set_option linter.unusedSimpArgs false

/-! ### cidr_Net_Nth: function 47 -/
def cidr_Net_Nth.f (a0_0 : Int) (a0_1 : Int) (a1 : Int) (a2 : Int) : Option (Int × Int × Int) := if a2 < 0 then (some (0, 0, 1)) else ((cidr_Net_Count.f a0_0 a0_1 a1).bind fun t47103 => (if a2 ≥ t47103 then (some (0, 0, 1)) else (if 0 ≤ (wrap64 (32 - a1)) then (some ((a0_0 + ((shl .u64 (IntKind.u64.wrap (a2)) (wrap64 (32 - a1))) % 4294967296)) % 4294967296, a1, 0)) else (none))))
def cidr_Net_Nth.T3 : Bool × List (List Nat × List Nat) := (true, [([], []), ([0], [0]), ([], []), ([2], [2]), ([], []), ([4], [4]), ([3, 5], [3, 5]), ([6], [6]), ([1, 7], [1, 7]), ([], []), ([8, 9], [8, 9]), ([10, 0, 1, 2, 3, 4, 5, 6, 7, 8, 9, 10], [10]), ([11, 0, 1, 2, 3, 4, 5, 6, 7, 8, 9, 10, 11], [])])
def cidr_Net_Nth.B3 : List Nat := [0, 1, 0, 4, 0, 16, 60, 124, 255, 0, 1023, 2047, 4095]
theorem cidr_Net_Nth.tab3 : rtab .any (opsOf Tryd.f47 3) = cidr_Net_Nth.T3 := by kernel_rfl
theorem cidr_Net_Nth.bits3 : waitsOk cidr_Net_Nth.T3.2 cidr_Net_Nth.B3 = true := by kernel_rfl
set_option maxHeartbeats 8000000 in
set_option maxRecDepth 100000 in
theorem cidr_Net_Nth.calls (a0_0 : Int) (a0_1 : Int) (a1 : Int) (a2 : Int) (r1 : Int) (r2 : Int) (r3 : Int) (w : World) (h : cidr_Net_Nth.f a0_0 a0_1 a1 a2 = some (r1, r2, r3)) :
    Calls Tryd.prog 47 #[.agg #[.int .u32 a0_0, .int .i64 a0_1], .int .i64 a1, .int .i64 a2] w fun e w' => e = .returned (.tuple #[.agg #[.int .u32 r1, .int .i64 r2], .int .i64 r3]) ∧ Below w.heap.size w w' := by
  have hu46 := Tryd.underlying46
  have HB := Aside0.mk (Below.refl w.heap.size w)
  have H : (if a2 < 0 then (some (0, 0, 1)) else ((cidr_Net_Count.f a0_0 a0_1 a1).bind fun t47103 => (if a2 ≥ t47103 then (some (0, 0, 1)) else (if 0 ≤ (wrap64 (32 - a1)) then (some ((a0_0 + ((shl .u64 (IntKind.u64.wrap (a2)) (wrap64 (32 - a1))) % 4294967296)) % 4294967296, a1, 0)) else (none))))) = some (r1, r2, r3) := h
  clear h
  by_cases c4 : a2 < 0
  · rw [if_pos c4] at H
    have c4b0 : decide (a2 < 0) = true := decide_eq_true c4
    clear c4
    simp only [Option.some.injEq, Prod.mk.injEq] at H
    obtain ⟨rfl, rfl, rfl⟩ := H
    go_enter Tryd.func47, Tryd.ntmps47
    go_wp2_with (first | ((with_reducible refine gate_dst (N := 3) rfl ?_); refine box_event ?hg (N := 3) ?hd (cs := #[.int .u32 a0_0, .int .i64 a0_1]) (t := 46) ?hr ?_; (case hd => rfl); (case hg => rfl); (case hr => first | (go_simp; done) | (go_simp; rfl)); intro gb47101 hg w5 hbox hb; have n0_ := Aside0.mk (below_step (by repeat (first | (with_reducible first | exact HB.out | apply below_alloc | apply pw_below_drewN | apply below_drew1) | exact HB.out)) hb); have n1_ := Aside0.mk (hbox); have n2_ := Aside0.mk ((by rw [hg]; exact (below_size (by repeat (first | (with_reducible first | exact HB.out | apply below_alloc | apply pw_below_drewN | apply below_drew1) | exact HB.out))) : w.heap.size ≤ gb47101)); have n3_ := Aside0.mk ((by rw [hg]; exact (below_size (by repeat (first | (with_reducible first | exact HB.out | apply below_alloc | apply pw_below_drewN | apply below_drew1) | exact HB.out))) : w.heap.size ≤ gb47101)); clear HB; have HB := n0_; have BK47101 := n1_; have GW47101 := n2_; have GE47101 := n3_; clear n0_ n1_ n2_ n3_; clear hb hbox hg) | ((with_reducible refine gate_dst (N := 6) rfl ?_); refine box_event ?hg (N := 6) ?hd (cs := #[.int .u32 0, .int .i64 0]) (t := 46) ?hr ?_; (case hd => rfl); (case hg => rfl); (case hr => first | (go_simp; done) | (go_simp; rfl)); intro gb47102 hg w6 hbox hb; have n0_ := Aside0.mk (blk_below (g := gb47101) (o := .cells #[.int .u32 a0_0, .int .i64 a0_1] 46 (0, 0)) (by (with_reducible repeat (first | refine blk_drewN ?_ _ | refine blk_drew ?_ | refine blk_alloc ?_ _)); exact BK47101.out) hb); have n1_ := Aside0.mk (below_step (by repeat (first | (with_reducible first | exact HB.out | apply below_alloc | apply pw_below_drewN | apply below_drew1 | refine below_set ?_ GE47101.out) | exact HB.out)) hb); have n2_ := Aside0.mk (hbox); have n3_ := Aside0.mk ((by rw [hg]; exact (below_size (by repeat (first | (with_reducible first | exact HB.out | apply below_alloc | apply pw_below_drewN | apply below_drew1 | refine below_set ?_ GE47101.out) | exact HB.out))) : w.heap.size ≤ gb47102)); have n4_ := Aside0.mk ((by rw [hg]; exact (below_size (by repeat (first | (with_reducible first | exact HB.out | apply below_alloc | apply pw_below_drewN | apply below_drew1 | refine below_set ?_ GE47101.out) | exact HB.out))) : w.heap.size ≤ gb47102)); have n5_ := Aside0.mk ((by rw [hg]; exact Nat.ne_of_lt (blk_lt (g := gb47101) (o := .cells #[.int .u32 a0_0, .int .i64 a0_1] 46 (0, 0)) (by (with_reducible repeat (first | refine blk_drewN ?_ _ | refine blk_drew ?_ | refine blk_alloc ?_ _)); exact BK47101.out)) : gb47101 ≠ gb47102)); have n6_ := Aside0.mk ((by rw [hg]; exact Nat.ne_of_gt (blk_lt (g := gb47101) (o := .cells #[.int .u32 a0_0, .int .i64 a0_1] 46 (0, 0)) (by (with_reducible repeat (first | refine blk_drewN ?_ _ | refine blk_drew ?_ | refine blk_alloc ?_ _)); exact BK47101.out)) : gb47102 ≠ gb47101)); clear BK47101; clear HB; have BK47101 := n0_; have HB := n1_; have BK47102 := n2_; have GW47102 := n3_; have GE47102 := n4_; have NB47101_47102 := n5_; have NB47102_47101 := n6_; clear n0_ n1_ n2_ n3_ n4_ n5_ n6_; clear hb hbox hg; have hnb7 := NB47102_47101.out; have hnc7 := NB47101_47102.out; have hcz8_0 : w6.cell? ⟨gb47102, 0, none⟩ = some (.int .u32 0) := (blk_cell BK47102.out 0).trans rfl; have hcz8_1 : w6.cell? ⟨gb47102, 1, none⟩ = some (.int .i64 0) := (blk_cell BK47102.out 1).trans rfl; have hfz8_0 := blk_frozen BK47102.out 0; have hfz8_1 := blk_frozen BK47102.out 1))
    refine bodyPost_ret (results_ct rfl _ _ gb47102 46 #[.int .u32 0, .int .i64 0] (0, 0) _ rfl (by (with_reducible repeat (first | refine blk_drewN ?_ _ | refine blk_drew ?_ | refine blk_alloc ?_ _)); refine blk_put (cs := #[.int .u32 0, .int .i64 0]) ?_ 1 _ rfl; (with_reducible repeat (first | refine blk_drewN ?_ _ | refine blk_drew ?_ | refine blk_alloc ?_ _)); refine blk_put (cs := #[.int .u32 0, .int .i64 0]) ?_ 0 _ rfl; (with_reducible repeat (first | refine blk_drewN ?_ _ | refine blk_drew ?_ | refine blk_alloc ?_ _)); exact BK47102.out) Tryd.underlying46 rfl (by kernel_rfl)) rfl ?_
    exact ⟨by first | rfl | (simp [errW_none, errW_some] <;> rfl) | (simp [*, errW_none, errW_some] <;> rfl), by repeat (first | (with_reducible first | exact HB.out | apply below_alloc | apply pw_below_drewN | apply below_drew1 | refine below_set ?_ GE47101.out | refine below_set ?_ GE47102.out) | exact HB.out)⟩
  · rw [if_neg c4] at H
    have c4b0 : decide (a2 < 0) = false := decide_eq_false c4
    clear c4
    replace H := Option.bind_eq_some_iff.mp H
    obtain ⟨t47103, A90, H⟩ := H
    replace H : (if a2 ≥ t47103 then (some (0, 0, 1)) else (if 0 ≤ (wrap64 (32 - a1)) then (some ((a0_0 + ((shl .u64 (IntKind.u64.wrap (a2)) (wrap64 (32 - a1))) % 4294967296)) % 4294967296, a1, 0)) else (none))) = some (r1, r2, r3) := H
    have A9 := Aside0.mk A90
    clear A90
    by_cases c10 : a2 ≥ t47103
    · rw [if_pos c10] at H
      have c10b0 : decide (t47103 ≤ a2) = true := decide_eq_true c10
      clear c10
      simp only [Option.some.injEq, Prod.mk.injEq] at H
      obtain ⟨rfl, rfl, rfl⟩ := H
      go_enter Tryd.func47, Tryd.ntmps47
      go_wp2_with (first | ((with_reducible refine gate_dst (N := 3) rfl ?_); refine box_event ?hg (N := 3) ?hd (cs := #[.int .u32 a0_0, .int .i64 a0_1]) (t := 46) ?hr ?_; (case hd => rfl); (case hg => rfl); (case hr => first | (go_simp; done) | (go_simp; rfl)); intro gb47101 hg w11 hbox hb; have n0_ := Aside0.mk (below_step (by repeat (first | (with_reducible first | exact HB.out | apply below_alloc | apply pw_below_drewN | apply below_drew1) | exact HB.out)) hb); have n1_ := Aside0.mk (hbox); have n2_ := Aside0.mk ((by rw [hg]; exact (below_size (by repeat (first | (with_reducible first | exact HB.out | apply below_alloc | apply pw_below_drewN | apply below_drew1) | exact HB.out))) : w.heap.size ≤ gb47101)); have n3_ := Aside0.mk ((by rw [hg]; exact (below_size (by repeat (first | (with_reducible first | exact HB.out | apply below_alloc | apply pw_below_drewN | apply below_drew1) | exact HB.out))) : w.heap.size ≤ gb47101)); clear HB; have HB := n0_; have BK47101 := n1_; have GW47101 := n2_; have GE47101 := n3_; clear n0_ n1_ n2_ n3_; clear hb hbox hg) | ((with_reducible refine gate_dst (N := 6) rfl ?_); refine box_event ?hg (N := 6) ?hd (cs := #[.int .u32 0, .int .i64 0]) (t := 46) ?hr ?_; (case hd => rfl); (case hg => rfl); (case hr => first | (go_simp; done) | (go_simp; rfl)); intro gb47102 hg w12 hbox hb; have n0_ := Aside0.mk (blk_below (g := gb47101) (o := .cells #[.int .u32 a0_0, .int .i64 a0_1] 46 (0, 0)) (by (with_reducible repeat (first | refine blk_drewN ?_ _ | refine blk_drew ?_ | refine blk_alloc ?_ _)); exact BK47101.out) hb); have n1_ := Aside0.mk (below_step (by repeat (first | (with_reducible first | exact HB.out | apply below_alloc | apply pw_below_drewN | apply below_drew1 | refine below_set ?_ GE47101.out) | exact HB.out)) hb); have n2_ := Aside0.mk (hbox); have n3_ := Aside0.mk ((by rw [hg]; exact (below_size (by repeat (first | (with_reducible first | exact HB.out | apply below_alloc | apply pw_below_drewN | apply below_drew1 | refine below_set ?_ GE47101.out) | exact HB.out))) : w.heap.size ≤ gb47102)); have n4_ := Aside0.mk ((by rw [hg]; exact (below_size (by repeat (first | (with_reducible first | exact HB.out | apply below_alloc | apply pw_below_drewN | apply below_drew1 | refine below_set ?_ GE47101.out) | exact HB.out))) : w.heap.size ≤ gb47102)); have n5_ := Aside0.mk ((by rw [hg]; exact Nat.ne_of_lt (blk_lt (g := gb47101) (o := .cells #[.int .u32 a0_0, .int .i64 a0_1] 46 (0, 0)) (by (with_reducible repeat (first | refine blk_drewN ?_ _ | refine blk_drew ?_ | refine blk_alloc ?_ _)); exact BK47101.out)) : gb47101 ≠ gb47102)); have n6_ := Aside0.mk ((by rw [hg]; exact Nat.ne_of_gt (blk_lt (g := gb47101) (o := .cells #[.int .u32 a0_0, .int .i64 a0_1] 46 (0, 0)) (by (with_reducible repeat (first | refine blk_drewN ?_ _ | refine blk_drew ?_ | refine blk_alloc ?_ _)); exact BK47101.out)) : gb47102 ≠ gb47101)); clear BK47101; clear HB; have BK47101 := n0_; have HB := n1_; have BK47102 := n2_; have GW47102 := n3_; have GE47102 := n4_; have NB47101_47102 := n5_; have NB47102_47101 := n6_; clear n0_ n1_ n2_ n3_ n4_ n5_ n6_; clear hb hbox hg; have hnb13 := NB47101_47102.out; have hnc13 := NB47102_47101.out; have hcz14_0 : w12.cell? ⟨gb47101, 0, none⟩ = some (.int .u32 a0_0) := (blk_cell BK47101.out 0).trans rfl; have hcz14_1 : w12.cell? ⟨gb47101, 1, none⟩ = some (.int .i64 a0_1) := (blk_cell BK47101.out 1).trans rfl; have hfz14_0 := blk_frozen BK47101.out 0; have hfz14_1 := blk_frozen BK47101.out 1) | (go_at_call 48; (with_reducible refine (cidr_Net_Count.calls a0_0 a0_1 a1 t47103 _ A9.out).mono ?_); rintro e w15 ⟨rfl, hb⟩; have n0_ := Aside0.mk (blk_below (g := gb47101) (o := .cells #[.int .u32 a0_0, .int .i64 a0_1] 46 (0, 0)) (by (with_reducible repeat (first | refine blk_drewN ?_ _ | refine blk_drew ?_ | refine blk_alloc ?_ _)); exact BK47101.out) hb); have n1_ := Aside0.mk (blk_below (g := gb47102) (o := .cells #[.int .u32 0, .int .i64 0] 46 (0, 0)) (by (with_reducible repeat (first | refine blk_drewN ?_ _ | refine blk_drew ?_ | refine blk_alloc ?_ _)); exact BK47102.out) hb); have n2_ := Aside0.mk (below_step (by repeat (first | (with_reducible first | exact HB.out | apply below_alloc | apply pw_below_drewN | apply below_drew1 | refine below_set ?_ GE47101.out | refine below_set ?_ GE47102.out) | exact HB.out)) hb); clear BK47101; clear BK47102; clear HB; have BK47101 := n0_; have BK47102 := n1_; have HB := n2_; clear n0_ n1_ n2_; (try clear hb); (try clear hb2); (try clear hk); (try clear hi); have hcz16_0 : w15.cell? ⟨gb47102, 0, none⟩ = some (.int .u32 0) := (blk_cell BK47102.out 0).trans rfl; have hcz16_1 : w15.cell? ⟨gb47102, 1, none⟩ = some (.int .i64 0) := (blk_cell BK47102.out 1).trans rfl; have hfz16_0 := blk_frozen BK47102.out 0; have hfz16_1 := blk_frozen BK47102.out 1))
      refine bodyPost_ret (results_ct rfl _ _ gb47102 46 #[.int .u32 0, .int .i64 0] (0, 0) _ rfl (by (with_reducible repeat (first | refine blk_drewN ?_ _ | refine blk_drew ?_ | refine blk_alloc ?_ _)); refine blk_put (cs := #[.int .u32 0, .int .i64 0]) ?_ 1 _ rfl; (with_reducible repeat (first | refine blk_drewN ?_ _ | refine blk_drew ?_ | refine blk_alloc ?_ _)); refine blk_put (cs := #[.int .u32 0, .int .i64 0]) ?_ 0 _ rfl; (with_reducible repeat (first | refine blk_drewN ?_ _ | refine blk_drew ?_ | refine blk_alloc ?_ _)); exact BK47102.out) Tryd.underlying46 rfl (by kernel_rfl)) rfl ?_
      exact ⟨by first | rfl | (simp [errW_none, errW_some] <;> rfl) | (simp [*, errW_none, errW_some] <;> rfl), by repeat (first | (with_reducible first | exact HB.out | apply below_alloc | apply pw_below_drewN | apply below_drew1 | refine below_set ?_ GE47101.out | refine below_set ?_ GE47102.out) | exact HB.out)⟩
    · rw [if_neg c10] at H
      have c10b0 : decide (t47103 ≤ a2) = false := decide_eq_false c10
      clear c10
      obtain ⟨ji17, hji17⟩ : ∃ j_ : Int, (wrap64 (32 - a1)) = j_ := ⟨_, rfl⟩
      replace H : (if 0 ≤ (ji17) then (some ((a0_0 + ((shl .u64 (IntKind.u64.wrap (a2)) (ji17)) % 4294967296)) % 4294967296, a1, 0)) else (none)) = some (r1, r2, r3) := by first | (rw [hji17] at H; exact H) | (simp only [hji17] at H ⊢; exact H)
      (try rw [hji17] at A9)
      have hji17w : (IntKind.i64.wrap (32 - a1)) = ji17 := (i64_w _).trans hji17
      by_cases c18 : 0 ≤ (ji17)
      · rw [if_pos c18] at H
        have c18b0 := eq_true c18
        have c18b1 : decide (0 ≤ (ji17)) = true := decide_eq_true c18
        clear c18
        obtain ⟨ji19, hji19⟩ : ∃ j_ : Int, (shl .u64 (IntKind.u64.wrap (a2)) (ji17)) = j_ := ⟨_, rfl⟩
        replace H : (some ((a0_0 + ((ji19) % 4294967296)) % 4294967296, a1, 0)) = some (r1, r2, r3) := by first | (rw [hji19] at H; exact H) | (simp only [hji19] at H ⊢; exact H)
        (try rw [hji19] at A9)
        have hji19_ : (IntKind.u64.wrap ((IntKind.u64.wrap (a2)) * 2 ^ min (ji17).toNat 64)) = ji19 := hji19
        have hji19z : (ji17) ≤ 64 → (IntKind.u64.wrap ((IntKind.u64.wrap (a2)) * 2 ^ (ji17).toNat)) = ji19 := shl_small hji19
        simp only [Option.some.injEq, Prod.mk.injEq] at H
        obtain ⟨rfl, rfl, rfl⟩ := H
        go_enter Tryd.func47, Tryd.ntmps47
        try go_wp2_with (first | ((with_reducible refine gate_dst (N := 3) rfl ?_); refine box_event ?hg (N := 3) ?hd (cs := #[.int .u32 a0_0, .int .i64 a0_1]) (t := 46) ?hr ?_; (case hd => rfl); (case hg => rfl); (case hr => first | (go_simp; done) | (go_simp; rfl)); intro gb47101 hg w20 hbox hb; have n0_ := Aside0.mk (below_step (by repeat (first | (with_reducible first | exact HB.out | apply below_alloc | apply pw_below_drewN | apply below_drew1) | exact HB.out)) hb); have n1_ := Aside0.mk (hbox); have n2_ := Aside0.mk ((by rw [hg]; exact (below_size (by repeat (first | (with_reducible first | exact HB.out | apply below_alloc | apply pw_below_drewN | apply below_drew1) | exact HB.out))) : w.heap.size ≤ gb47101)); have n3_ := Aside0.mk ((by rw [hg]; exact (below_size (by repeat (first | (with_reducible first | exact HB.out | apply below_alloc | apply pw_below_drewN | apply below_drew1) | exact HB.out))) : w.heap.size ≤ gb47101)); clear HB; have HB := n0_; have BK47101 := n1_; have GW47101 := n2_; have GE47101 := n3_; clear n0_ n1_ n2_ n3_; clear hb hbox hg) | ((with_reducible refine gate_dst (N := 6) rfl ?_); refine box_event ?hg (N := 6) ?hd (cs := #[.int .u32 0, .int .i64 0]) (t := 46) ?hr ?_; (case hd => rfl); (case hg => rfl); (case hr => first | (go_simp; done) | (go_simp; rfl)); intro gb47102 hg w21 hbox hb; have n0_ := Aside0.mk (blk_below (g := gb47101) (o := .cells #[.int .u32 a0_0, .int .i64 a0_1] 46 (0, 0)) (by (with_reducible repeat (first | refine blk_drewN ?_ _ | refine blk_drew ?_ | refine blk_alloc ?_ _)); exact BK47101.out) hb); have n1_ := Aside0.mk (below_step (by repeat (first | (with_reducible first | exact HB.out | apply below_alloc | apply pw_below_drewN | apply below_drew1 | refine below_set ?_ GE47101.out) | exact HB.out)) hb); have n2_ := Aside0.mk (hbox); have n3_ := Aside0.mk ((by rw [hg]; exact (below_size (by repeat (first | (with_reducible first | exact HB.out | apply below_alloc | apply pw_below_drewN | apply below_drew1 | refine below_set ?_ GE47101.out) | exact HB.out))) : w.heap.size ≤ gb47102)); have n4_ := Aside0.mk ((by rw [hg]; exact (below_size (by repeat (first | (with_reducible first | exact HB.out | apply below_alloc | apply pw_below_drewN | apply below_drew1 | refine below_set ?_ GE47101.out) | exact HB.out))) : w.heap.size ≤ gb47102)); have n5_ := Aside0.mk ((by rw [hg]; exact Nat.ne_of_lt (blk_lt (g := gb47101) (o := .cells #[.int .u32 a0_0, .int .i64 a0_1] 46 (0, 0)) (by (with_reducible repeat (first | refine blk_drewN ?_ _ | refine blk_drew ?_ | refine blk_alloc ?_ _)); exact BK47101.out)) : gb47101 ≠ gb47102)); have n6_ := Aside0.mk ((by rw [hg]; exact Nat.ne_of_gt (blk_lt (g := gb47101) (o := .cells #[.int .u32 a0_0, .int .i64 a0_1] 46 (0, 0)) (by (with_reducible repeat (first | refine blk_drewN ?_ _ | refine blk_drew ?_ | refine blk_alloc ?_ _)); exact BK47101.out)) : gb47102 ≠ gb47101)); clear BK47101; clear HB; have BK47101 := n0_; have HB := n1_; have BK47102 := n2_; have GW47102 := n3_; have GE47102 := n4_; have NB47101_47102 := n5_; have NB47102_47101 := n6_; clear n0_ n1_ n2_ n3_ n4_ n5_ n6_; clear hb hbox hg; have hnb22 := NB47101_47102.out; have hnc22 := NB47102_47101.out; have hcz23_0 : w21.cell? ⟨gb47101, 0, none⟩ = some (.int .u32 a0_0) := (blk_cell BK47101.out 0).trans rfl; have hcz23_1 : w21.cell? ⟨gb47101, 1, none⟩ = some (.int .i64 a0_1) := (blk_cell BK47101.out 1).trans rfl; have hfz23_0 := blk_frozen BK47101.out 0; have hfz23_1 := blk_frozen BK47101.out 1) | (go_at_call 48; (with_reducible refine (cidr_Net_Count.calls a0_0 a0_1 a1 t47103 _ A9.out).mono ?_); rintro e w24 ⟨rfl, hb⟩; have n0_ := Aside0.mk (blk_below (g := gb47101) (o := .cells #[.int .u32 a0_0, .int .i64 a0_1] 46 (0, 0)) (by (with_reducible repeat (first | refine blk_drewN ?_ _ | refine blk_drew ?_ | refine blk_alloc ?_ _)); exact BK47101.out) hb); have n1_ := Aside0.mk (blk_below (g := gb47102) (o := .cells #[.int .u32 0, .int .i64 0] 46 (0, 0)) (by (with_reducible repeat (first | refine blk_drewN ?_ _ | refine blk_drew ?_ | refine blk_alloc ?_ _)); exact BK47102.out) hb); have n2_ := Aside0.mk (below_step (by repeat (first | (with_reducible first | exact HB.out | apply below_alloc | apply pw_below_drewN | apply below_drew1 | refine below_set ?_ GE47101.out | refine below_set ?_ GE47102.out) | exact HB.out)) hb); clear BK47101; clear BK47102; clear HB; have BK47101 := n0_; have BK47102 := n1_; have HB := n2_; clear n0_ n1_ n2_; (try clear hb); (try clear hb2); (try clear hk); (try clear hi)))
        have n0_ := Aside0.mk (blk_drew BK47101.out)
        have n1_ := Aside0.mk (blk_drew BK47102.out)
        have n2_ := Aside0.mk (below_drew1 HB.out)
        clear BK47101
        clear BK47102
        clear HB
        have BK47101 := n0_
        have BK47102 := n1_
        have HB := n2_
        clear n0_ n1_ n2_
        refine start_ (n := 13) (S := fun w' => w'.cell? ⟨gb47101, 0, none⟩ = some (.int .u32 a0_0) ∧ w'.cell? ⟨gb47101, 1, none⟩ = some (.int .i64 a0_1)) (ds := []) #[false, false, false, false, false, false, false, false, false, false, false, false, false] (by kernel_rfl) rfl rfl ⟨(blk_cell BK47101.out 0).trans rfl, (blk_cell BK47101.out 1).trans rfl⟩ (fun hHeld => ?_); refine with_tabW cidr_Net_Nth.tab3 cidr_Net_Nth.bits3 (fun HT_ HW_ => ?_)
        generalize w24.drew = w25 at BK47101 BK47102 HB hHeld ⊢
        refine pure_ (i := 0) (N := some 18) (v := ?_) (a' := ?_) #[true, false, false, false, false, false, false, false, false, false, false, false, false] rfl rfl (any_of HT_.out (by kernel_rfl)) (fun _ _ _ h => h) (Or.inl ⟨by rfl, ?_⟩) ?_ ?_
        rotate_left
        · intro w'
          go_simp
          with_reducible rfl
        rotate_left
        · simp only [Act.put, List.setIfInBounds_toArray, List.set_cons_zero, List.set_cons_succ, i64_w, i32_w]
          rfl
        refine pure_ (i := 2) (N := some 20) (v := ?_) (a' := ?_) #[true, false, true, false, false, false, false, false, false, false, false, false, false] rfl rfl (any_of HT_.out (by kernel_rfl)) (fun _ _ _ h => h) (Or.inl ⟨by rfl, ?_⟩) ?_ ?_
        rotate_left
        · intro w'
          go_simp
          with_reducible rfl
        rotate_left
        · simp only [Act.put, List.setIfInBounds_toArray, List.set_cons_zero, List.set_cons_succ, i64_w, i32_w]
          rfl
        refine pure_ (i := 3) (N := some 21) (v := ?_) (a' := ?_) #[true, false, true, true, false, false, false, false, false, false, false, false, false] rfl rfl (any_of HT_.out (by kernel_rfl)) (fun _ _ _ h => h) (Or.inl ⟨by rfl, ?_⟩) ?_ ?_
        rotate_left
        · intro w'
          go_simp
          with_reducible rfl
        rotate_left
        · simp only [Act.put, List.setIfInBounds_toArray, List.set_cons_zero, List.set_cons_succ, i64_w, i32_w]
          rfl
        refine pure_ (i := 4) (N := some 22) (v := ?_) (a' := ?_) #[true, false, true, true, true, false, false, false, false, false, false, false, false] rfl rfl (any_of HT_.out (by kernel_rfl)) (fun _ _ _ h => h) (Or.inl ⟨by rfl, ?_⟩) ?_ ?_
        rotate_left
        · intro w'
          go_simp
          with_reducible rfl
        rotate_left
        · simp only [Act.put, List.setIfInBounds_toArray, List.set_cons_zero, List.set_cons_succ, i64_w, i32_w]
          rfl
        refine pure_ (i := 5) (N := some 23) (v := ?_) (a' := ?_) #[true, false, true, true, true, true, false, false, false, false, false, false, false] rfl rfl (any_of HT_.out (by kernel_rfl)) (fun _ _ _ h => h) (Or.inl ⟨by rfl, ?_⟩) ?_ ?_
        rotate_left
        · intro w'
          go_simp
          with_reducible rfl
        rotate_left
        · simp only [Act.put, List.setIfInBounds_toArray, List.set_cons_zero, List.set_cons_succ, i64_w, i32_w]
          rfl
        refine pure_ (i := 6) (N := some 24) (v := ?_) (a' := ?_) #[true, false, true, true, true, true, true, false, false, false, false, false, false] rfl rfl (any_of HT_.out (by kernel_rfl)) (fun _ _ _ h => h) (Or.inl ⟨by rfl, ?_⟩) ?_ ?_
        rotate_left
        · intro w'
          go_simp
          with_reducible rfl
        rotate_left
        · simp only [Act.put, List.setIfInBounds_toArray, List.set_cons_zero, List.set_cons_succ, i64_w, i32_w]
          rfl
        refine pure_ (i := 7) (N := some 25) (v := ?_) (a' := ?_) #[true, false, true, true, true, true, true, true, false, false, false, false, false] rfl rfl (any_of HT_.out (by kernel_rfl)) (fun _ _ _ h => h) (Or.inl ⟨by rfl, ?_⟩) ?_ ?_
        rotate_left
        · intro w'
          go_simp
          with_reducible rfl
        rotate_left
        · simp only [Act.put, List.setIfInBounds_toArray, List.set_cons_zero, List.set_cons_succ, i64_w, i32_w]
          rfl
        refine pure_ (i := 9) (N := some 27) (v := ?_) (a' := ?_) #[true, false, true, true, true, true, true, true, false, true, false, false, false] rfl rfl (any_of HT_.out (by kernel_rfl)) (fun _ _ _ h => h) (Or.inl ⟨by rfl, ?_⟩) ?_ ?_
        rotate_left
        · intro w'
          go_simp
          with_reducible rfl
        rotate_left
        · simp only [Act.put, List.setIfInBounds_toArray, List.set_cons_zero, List.set_cons_succ, i64_w, i32_w]
          rfl
        refine take_ (i := 1) (N := some 19) (v := ?_) (a' := ?_) #[true, true, true, true, true, true, true, true, false, true, false, false, false] rfl rfl (take_ofW HT_.out HW_.out (by kernel_rfl)) (fun _ _ _ h => h) (Or.inl ⟨by rfl, ?_⟩) hHeld ?_ ?_
        rotate_left
        · rintro w' ⟨s0, s1⟩
          go_simp
          with_reducible rfl
        rotate_left
        · simp only [Act.put, List.setIfInBounds_toArray, List.set_cons_zero, List.set_cons_succ, i64_w, i32_w]
          rfl
        refine pure_ (i := 8) (N := some 26) (v := ?_) (a' := ?_) #[true, true, true, true, true, true, true, true, true, true, false, false, false] rfl rfl (any_of HT_.out (by kernel_rfl)) (fun _ _ _ h => h) (Or.inl ⟨by rfl, ?_⟩) ?_ ?_
        rotate_left
        · intro w'
          go_simp
          with_reducible rfl
        rotate_left
        · simp only [Act.put, List.setIfInBounds_toArray, List.set_cons_zero, List.set_cons_succ, i64_w, i32_w]
          rfl
        refine pure_ (i := 10) (N := some 28) (v := ?_) (a' := ?_) #[true, true, true, true, true, true, true, true, true, true, true, false, false] rfl rfl (any_of HT_.out (by kernel_rfl)) (fun _ _ _ h => h) (Or.inl ⟨by rfl, ?_⟩) ?_ ?_
        rotate_left
        · intro w'
          go_simp
          with_reducible rfl
        rotate_left
        · simp only [Act.put, List.setIfInBounds_toArray, List.set_cons_zero, List.set_cons_succ, i64_w, i32_w]
          rfl
        refine one_ (i := 11) (N := none) #[true, true, true, true, true, true, true, true, true, true, true, true, false] rfl rfl (one_of HT_.out (by kernel_rfl)) (by decide) (fun K hK => ?_)
        have hs26 : w25.cell? ⟨gb47102, 0, none⟩ = some (.int .u32 0) := (blk_cell BK47102.out 0).trans rfl
        have hfs26 := blk_frozen BK47102.out 0
        have hns26_0 := NB47101_47102.out
        have hms26_0 := NB47102_47101.out
        have hs27 : w25.cell? ⟨gb47102, 1, none⟩ = some (.int .i64 0) := (blk_cell BK47102.out 1).trans rfl
        have hfs27 := blk_frozen BK47102.out 1
        have hns27_0 := NB47101_47102.out
        have hms27_0 := NB47102_47101.out
        refine skip_ (w1 := ?_) (by rfl) rfl ?_ ?_
        rotate_left
        · go_simp
          rfl
        refine hK.out _ _ ⟨((cell_far (p := ⟨gb47102, _, none⟩) NB47101_47102.out _).trans (((cell_far (p := ⟨gb47102, _, none⟩) NB47101_47102.out _).trans (hHeld.1)))), ((cell_far (p := ⟨gb47102, _, none⟩) NB47101_47102.out _).trans (((cell_far (p := ⟨gb47102, _, none⟩) NB47101_47102.out _).trans (hHeld.2))))⟩ (fun hHeld => ?_)
        clear hK K
        refine pure_ (i := 12) (N := some 7) (v := ?_) (a' := ?_) #[true, true, true, true, true, true, true, true, true, true, true, true, true] rfl rfl (any_of HT_.out (by kernel_rfl)) (fun _ _ _ h => h) (Or.inl ⟨by rfl, ?_⟩) ?_ ?_
        rotate_left
        · intro w'
          go_simp
          with_reducible rfl
        rotate_left
        · simp only [Act.put, List.setIfInBounds_toArray, List.set_cons_zero, List.set_cons_succ, i64_w, i32_w]
          rfl
        refine done_ (done_of HT_.out (by kernel_rfl)) ?_
        try go_wp2
        refine bodyPost_ret (results_ct rfl _ _ gb47102 46 #[.int .u32 ((a0_0 + ((ji19) % 4294967296)) % 4294967296), .int .i64 a1] (0, 0) _ rfl (by (with_reducible repeat (first | refine blk_drewN ?_ _ | refine blk_drew ?_ | refine blk_alloc ?_ _)); refine blk_put (cs := #[.int .u32 ((a0_0 + ((ji19) % 4294967296)) % 4294967296), .int .i64 0]) ?_ 1 _ rfl; (with_reducible repeat (first | refine blk_drewN ?_ _ | refine blk_drew ?_ | refine blk_alloc ?_ _)); refine blk_put (cs := #[.int .u32 0, .int .i64 0]) ?_ 0 _ rfl; (with_reducible repeat (first | refine blk_drewN ?_ _ | refine blk_drew ?_ | refine blk_alloc ?_ _)); exact BK47102.out) Tryd.underlying46 rfl (by kernel_rfl)) rfl ?_
        exact ⟨by first | rfl | (simp [errW_none, errW_some] <;> rfl) | (simp only [← hji17, ← hji19]; first | rfl | (simp [errW_none, errW_some] <;> rfl)) | (simp [*, errW_none, errW_some] <;> rfl), by repeat (first | (with_reducible first | exact HB.out | apply below_alloc | apply pw_below_drewN | apply below_drew1 | refine below_set ?_ GE47101.out | refine below_set ?_ GE47102.out) | exact HB.out)⟩
      · rw [if_neg c18] at H
        exact absurd H (by simp)
end Go.Proofs.YtcdopgkkieenjaaDoor.V
end

