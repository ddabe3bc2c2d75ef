/- The law IpBytes for every input: texts of ours, put together (part 6 of 9). No further condition. -/
import Derived.Test.YtcdopgkkieenjaaDoorCB3
import Derived.Test.YtcdopgkkieenjaaDoorCB4
-- VFVirgatelaw01Awake
section
-- PRINTED by print.py (a twelfth state) out of the translation. Not trusted: Lean checks it.
namespace Go.Proofs.YtcdopgkkieenjaaDoor.V
open Go.RowKit Go.Proofs.YtcdopgkkieenjaaDoorW.PrintWords Go.Proofs.YtcdopgkkieenjaaDoorW.PrintLast Go.Proofs.YtcdopgkkieenjaaDoorW.PrintMore
attribute [local go_sem] max2_int min2_int max_two min_two max_three min_three max_four min_four   -- for this text's walks alone
set_option linter.unusedVariables false
set_option linter.unusedSimpArgs false

/-! ### virgatelaw01_awake: function 21 -/
def virgatelaw01_awake.f  : Option (Bool) := (ip_Parse.f (⟨#[49, 48, 46, 48, 46, 48, 46, 49]⟩ : ByteArray)).bind fun bt21101 => (if bt21101.1 = 167772161 then (if bt21101.2 = 0 then ((ip_Print.f bt21101.1).bind fun t21103 => (some (t21103.toList == ([49, 48, 46, 48, 46, 48, 46, 49] : List UInt8)))) else (some false)) else (some false))
set_option maxHeartbeats 8000000 in
set_option maxRecDepth 100000 in
theorem virgatelaw01_awake.calls  (r : Bool) (w : World) (h : virgatelaw01_awake.f  = some r) :
    Calls Tryd.prog 21 #[] w fun e w' => e = .returned (.bool r) ∧ Below w.heap.size w w' := by
  have HB := Aside0.mk (Below.refl w.heap.size w)
  have H : ((ip_Parse.f (⟨#[49, 48, 46, 48, 46, 48, 46, 49]⟩ : ByteArray)).bind fun bt21101 => (if bt21101.1 = 167772161 then (if bt21101.2 = 0 then ((ip_Print.f bt21101.1).bind fun t21103 => (some (t21103.toList == ([49, 48, 46, 48, 46, 48, 46, 49] : List UInt8)))) else (some false)) else (some false))) = some r := h
  clear h
  replace H := Option.bind_eq_some_iff.mp H
  obtain ⟨⟨t21101, t21102⟩, A10, H⟩ := H
  replace H : (if t21101 = 167772161 then (if t21102 = 0 then ((ip_Print.f t21101).bind fun t21103 => (some (t21103.toList == ([49, 48, 46, 48, 46, 48, 46, 49] : List UInt8)))) else (some false)) else (some false)) = some r := H
  have A1 := Aside0.mk A10
  clear A10
  by_cases c2 : t21101 = 167772161
  · rw [if_pos c2] at H
    have c2b0 : (t21101 == 167772161) = true := beq_iff_eq.mpr c2
    have c2b1 : (t21101 != 167772161) = false := bne_eq_false_iff_eq.mpr c2
    clear c2
    by_cases c3 : t21102 = 0
    · rw [if_pos c3] at H
      have c3b0 : (t21102 == 0) = true := beq_iff_eq.mpr c3
      have c3b1 : (t21102 != 0) = false := bne_eq_false_iff_eq.mpr c3
      clear c3
      replace H := Option.bind_eq_some_iff.mp H
      obtain ⟨t21103, A40, H⟩ := H
      replace H : (some (t21103.toList == ([49, 48, 46, 48, 46, 48, 46, 49] : List UInt8))) = some r := H
      have A4 := Aside0.mk A40
      clear A40
      obtain rfl := Option.some.inj H
      go_enter Tryd.func21, Tryd.ntmps21
      go_wp2_with (first | ((with_reducible refine gate_callee (f := 19) rfl ?_); refine goesL_ (some 4) rfl rfl Tryd.func19 (by kernel_rfl) rfl #[.string (⟨#[49, 48, 46, 48, 46, 48, 46, 49]⟩ : ByteArray)] rfl (by (try simp only [List.map_toArray, List.map_cons, List.map_nil]); first | done | rfl | (simp only [List.length_drop, List.length_take]; rfl)) ?_; (with_reducible refine (ip_Parse.calls (⟨#[49, 48, 46, 48, 46, 48, 46, 49]⟩ : ByteArray) t21101 t21102 _ A1.out).mono ?_); rintro e w5 ⟨rfl, hb⟩; refine ⟨_, rfl, ?_⟩; have n0_ := Aside0.mk (below_step (by repeat (first | (with_reducible first | exact HB.out | apply below_alloc | apply pw_below_drewN | apply below_drew1) | exact HB.out)) hb); clear HB; have HB := n0_; clear n0_; (try clear hb); (try clear hb2); (try clear hk); (try clear hi)) | (go_at_call 18; (with_reducible refine (ip_Print.calls t21101 t21103 _ A4.out).mono ?_); rintro e w6 ⟨rfl, hb⟩; have n0_ := Aside0.mk (below_step (by repeat (first | (with_reducible first | exact HB.out | apply below_alloc | apply pw_below_drewN | apply below_drew1) | exact HB.out)) hb); clear HB; have HB := n0_; clear n0_; (try clear hb); (try clear hb2); (try clear hk); (try clear hi)))
      go_ret
      exact ⟨by first | rfl | (simp [errW_none, errW_some] <;> rfl) | (simp [*, errW_none, errW_some] <;> rfl), by repeat (first | (with_reducible first | exact HB.out | apply below_alloc | apply pw_below_drewN | apply below_drew1) | exact HB.out)⟩
    · rw [if_neg c3] at H
      have c3b0 : (t21102 == 0) = false := beq_eq_false_iff_ne.mpr c3
      have c3b1 : (t21102 != 0) = true := bne_iff_ne.mpr c3
      obtain rfl := Option.some.inj H
      go_enter Tryd.func21, Tryd.ntmps21
      go_wp2_with (first | ((with_reducible refine gate_callee (f := 19) rfl ?_); refine goesL_ (some 4) rfl rfl Tryd.func19 (by kernel_rfl) rfl #[.string (⟨#[49, 48, 46, 48, 46, 48, 46, 49]⟩ : ByteArray)] rfl (by (try simp only [List.map_toArray, List.map_cons, List.map_nil]); first | done | rfl | (simp only [List.length_drop, List.length_take]; rfl)) ?_; (with_reducible refine (ip_Parse.calls (⟨#[49, 48, 46, 48, 46, 48, 46, 49]⟩ : ByteArray) t21101 t21102 _ A1.out).mono ?_); rintro e w7 ⟨rfl, hb⟩; refine ⟨_, rfl, ?_⟩; have n0_ := Aside0.mk (below_step (by repeat (first | (with_reducible first | exact HB.out | apply below_alloc | apply pw_below_drewN | apply below_drew1) | exact HB.out)) hb); clear HB; have HB := n0_; clear n0_; (try clear hb); (try clear hb2); (try clear hk); (try clear hi)))
      go_ret
      exact ⟨by first | rfl | (simp [errW_none, errW_some] <;> rfl) | (simp [*, errW_none, errW_some] <;> rfl), by repeat (first | (with_reducible first | exact HB.out | apply below_alloc | apply pw_below_drewN | apply below_drew1) | exact HB.out)⟩
  · rw [if_neg c2] at H
    have c2b0 : (t21101 == 167772161) = false := beq_eq_false_iff_ne.mpr c2
    have c2b1 : (t21101 != 167772161) = true := bne_iff_ne.mpr c2
    obtain rfl := Option.some.inj H
    go_enter Tryd.func21, Tryd.ntmps21
    go_wp2_with (first | ((with_reducible refine gate_callee (f := 19) rfl ?_); refine goesL_ (some 4) rfl rfl Tryd.func19 (by kernel_rfl) rfl #[.string (⟨#[49, 48, 46, 48, 46, 48, 46, 49]⟩ : ByteArray)] rfl (by (try simp only [List.map_toArray, List.map_cons, List.map_nil]); first | done | rfl | (simp only [List.length_drop, List.length_take]; rfl)) ?_; (with_reducible refine (ip_Parse.calls (⟨#[49, 48, 46, 48, 46, 48, 46, 49]⟩ : ByteArray) t21101 t21102 _ A1.out).mono ?_); rintro e w8 ⟨rfl, hb⟩; refine ⟨_, rfl, ?_⟩; have n0_ := Aside0.mk (below_step (by repeat (first | (with_reducible first | exact HB.out | apply below_alloc | apply pw_below_drewN | apply below_drew1) | exact HB.out)) hb); clear HB; have HB := n0_; clear n0_; (try clear hb); (try clear hb2); (try clear hk); (try clear hi)))
    go_ret
    exact ⟨by first | rfl | (simp [errW_none, errW_some] <;> rfl) | (simp [*, errW_none, errW_some] <;> rfl), by repeat (first | (with_reducible first | exact HB.out | apply below_alloc | apply pw_below_drewN | apply below_drew1) | exact HB.out)⟩

end Go.Proofs.YtcdopgkkieenjaaDoor.V
end

-- VFVirgateref01Byte
section
-- PRINTED by print.py (a twelfth state) out of the translation. Not trusted: Lean checks it.
namespace Go.Proofs.YtcdopgkkieenjaaDoor.V
open Go.RowKit Go.Proofs.YtcdopgkkieenjaaDoorW.PrintWords Go.Proofs.YtcdopgkkieenjaaDoorW.PrintLast Go.Proofs.YtcdopgkkieenjaaDoorW.PrintMore
attribute [local go_sem] max2_int min2_int max_two min_two max_three min_three max_four min_four   -- for this text's walks alone
set_option linter.unusedVariables false
set_option linter.unusedSimpArgs false

/-! ### virgateref01_Byte: function 24 -/
def virgateref01_Byte.l0 : Nat → Int → Int → Option (Int)
  | 0, _, _ => none
  | k + 1, x5, x6 => if x6 < 3 then (virgateref01_Byte.l0 k (wrap64 (Int.tdiv x5 256)) (wrap64 (x6 + 1))) else (some (Int.tmod x5 256))
def virgateref01_Byte.f (k : Nat) (a0 : Int) (a1 : Int) : Option (Int) := virgateref01_Byte.l0 k (wrap64 (a0)) a1
theorem virgateref01_Byte.mono_l : ∀ k, (∀ y0 y1, LeO (virgateref01_Byte.l0 k y0 y1) (virgateref01_Byte.l0 (k + 1) y0 y1))
  | 0 => fun _ _ r h => by simp [virgateref01_Byte.l0] at h
  | k + 1 => by
    have ih0 := virgateref01_Byte.mono_l k
    · intro y0 y1
      unfold virgateref01_Byte.l0
      repeat' first
      | (with_reducible exact ih0 _ _)
      | (with_reducible exact LeO.refl _)
      | (with_reducible exact LeO.none _)
      | (with_reducible refine LeO.ite ?_ ?_)
      | (with_reducible refine LeO.bind ?_ (fun _ => ?_))
      | exact ih0 _ _
      | exact LeO.none _
      | refine LeO.ite ?_ ?_
      | refine LeO.bind ?_ (fun _ => ?_)
theorem virgateref01_Byte.mono : ∀ a0 a1 k, LeO (virgateref01_Byte.f k a0 a1) (virgateref01_Byte.f (k + 1) a0 a1) := by
  intro a0 a1 k
  have ih0 := virgateref01_Byte.mono_l k
  unfold virgateref01_Byte.f
  repeat' first
      | (with_reducible exact ih0 _ _)
      | (with_reducible exact LeO.refl _)
      | (with_reducible exact LeO.none _)
      | (with_reducible refine LeO.ite ?_ ?_)
      | (with_reducible refine LeO.bind ?_ (fun _ => ?_))
      | exact ih0 _ _
      | exact LeO.none _
      | refine LeO.ite ?_ ?_
      | refine LeO.bind ?_ (fun _ => ?_)
set_option maxHeartbeats 8000000 in
set_option maxRecDepth 100000 in
theorem virgateref01_Byte.calls (k : Nat) (a0 : Int) (a1 : Int) (r : Int) (w : World) (h : virgateref01_Byte.f k a0 a1 = some r) :
    Calls Tryd.prog 24 #[.int .u32 a0, .int .i64 a1] w fun e w' => e = .returned (.int .i64 r) ∧ Drawn0 w w' := by
  have H : (virgateref01_Byte.l0 k (wrap64 (a0)) a1) = some r := h
  clear h
  have H' := Aside0.mk H
  clear H
  go_enter Tryd.func24, Tryd.ntmps24
  go_wp2
  go_loopg [5, 6] k (fun kq v5 v6 w' => ∃ (x5_1 : Int) (x6_1 : Int), v5 = .int .i64 x5_1 ∧ v6 = .int .i64 x6_1 ∧ Aside0 (virgateref01_Byte.l0 kq x5_1 x6_1 = some r) ∧ Aside0 (kq ≤ k) ∧ Drawn0 w w')
  case atStart => exact ⟨(wrap64 (a0)), (a1), (by first | rfl | (simp; done) | (simp [*]; done)), (by first | rfl | (simp; done) | (simp [*]; done)), H', ⟨Nat.le_refl _⟩, by repeat (first | exact Drawn0.refl _ | apply Drawn0.step)⟩
  case round =>
    clear H'
    try clear c2
    try clear p2
    obtain ⟨x5_1, x6_1, rfl, rfl, HA, HK1, ⟨m1, rfl⟩⟩ := hrel
    cases gk with
    | zero => exact absurd HA.out (by simp [virgateref01_Byte.l0])
    | succ k1 =>
      have H := HA.out
      clear HA
      simp only [virgateref01_Byte.l0] at H
      by_cases c3 : x6_1 < 3
      · rw [if_pos c3] at H
        have c3b0 : decide (x6_1 < 3) = true := decide_eq_true c3
        clear c3
        have H' := Aside0.mk H
        clear H
        go_wp2
        go_roundg k1
        case measure => have := HK1.out; omega
        case rel => exact ⟨(wrap64 (Int.tdiv x5_1 256)), (wrap64 (x6_1 + 1)), (by first | rfl | (simp; done) | (simp [*]; done)), (by first | rfl | (simp; done) | (simp [*]; done)), H', ⟨by have := HK1.out; omega⟩, by repeat (first | exact Drawn0.refl _ | apply Drawn0.step)⟩
      · rw [if_neg c3] at H
        have c3b0 : decide (x6_1 < 3) = false := decide_eq_false c3
        clear c3
        obtain rfl := Option.some.inj H
        go_wp2
        go_ret
        exact ⟨by first | rfl | (simp; done) | (simp [*]; done), by repeat (first | exact Drawn0.refl _ | apply Drawn0.step)⟩

end Go.Proofs.YtcdopgkkieenjaaDoor.V
end

-- VFVirgateref01Print
section
-- PRINTED by print.py (a twelfth state) out of the translation. Not trusted: Lean checks it.
namespace Go.Proofs.YtcdopgkkieenjaaDoor.V
open Go.RowKit Go.Proofs.YtcdopgkkieenjaaDoorW.PrintWords Go.Proofs.YtcdopgkkieenjaaDoorW.PrintLast Go.Proofs.YtcdopgkkieenjaaDoorW.PrintMore
attribute [local go_sem] max2_int min2_int max_two min_two max_three min_three max_four min_four   -- for this text's walks alone
set_option linter.unusedVariables false
set_option linter.unusedSimpArgs false

/-! ### virgateref01_Print: function 20 -/
def virgateref01_Print.f (k : Nat) (a0 : Int) : Option (ByteArray) := (virgateref01_Byte.f k a0 0).bind fun t20101 => ((virgateref01_num.f k t20101).bind fun t20102 => (if t20102.size + 1 ≤ 9223372036854775807 then ((virgateref01_Byte.f k a0 1).bind fun t20103 => ((virgateref01_num.f k t20103).bind fun t20104 => (if (t20102 ++ (⟨#[46]⟩ : ByteArray)).size + t20104.size ≤ 9223372036854775807 then (if ((t20102 ++ (⟨#[46]⟩ : ByteArray)) ++ t20104).size + 1 ≤ 9223372036854775807 then ((virgateref01_Byte.f k a0 2).bind fun t20105 => ((virgateref01_num.f k t20105).bind fun t20106 => (if (((t20102 ++ (⟨#[46]⟩ : ByteArray)) ++ t20104) ++ (⟨#[46]⟩ : ByteArray)).size + t20106.size ≤ 9223372036854775807 then (if ((((t20102 ++ (⟨#[46]⟩ : ByteArray)) ++ t20104) ++ (⟨#[46]⟩ : ByteArray)) ++ t20106).size + 1 ≤ 9223372036854775807 then ((virgateref01_Byte.f k a0 3).bind fun t20107 => ((virgateref01_num.f k t20107).bind fun t20108 => (if (((((t20102 ++ (⟨#[46]⟩ : ByteArray)) ++ t20104) ++ (⟨#[46]⟩ : ByteArray)) ++ t20106) ++ (⟨#[46]⟩ : ByteArray)).size + t20108.size ≤ 9223372036854775807 then (some ((((((t20102 ++ (⟨#[46]⟩ : ByteArray)) ++ t20104) ++ (⟨#[46]⟩ : ByteArray)) ++ t20106) ++ (⟨#[46]⟩ : ByteArray)) ++ t20108)) else (none)))) else (none)) else (none)))) else (none)) else (none)))) else (none)))
theorem virgateref01_Print.mono : ∀ a0 k, LeO (virgateref01_Print.f k a0) (virgateref01_Print.f (k + 1) a0) := by
  intro a0 k
  unfold virgateref01_Print.f
  repeat' first
      | (with_reducible exact virgateref01_Byte.mono _ _ _)
      | (with_reducible exact virgateref01_num.mono _ _)
      | (with_reducible exact LeO.refl _)
      | (with_reducible exact LeO.none _)
      | (with_reducible refine LeO.ite ?_ ?_)
      | (with_reducible refine LeO.bind ?_ (fun _ => ?_))
      | exact virgateref01_Byte.mono _ _ _
      | exact virgateref01_num.mono _ _
      | exact LeO.none _
      | refine LeO.ite ?_ ?_
      | refine LeO.bind ?_ (fun _ => ?_)
set_option maxHeartbeats 8000000 in
set_option maxRecDepth 100000 in
theorem virgateref01_Print.calls (k : Nat) (a0 : Int) (r : ByteArray) (w : World) (h : virgateref01_Print.f k a0 = some r) :
    Calls Tryd.prog 20 #[.int .u32 a0] w fun e w' => e = .returned (.string r) ∧ Below w.heap.size w w' := by
  have HB := Aside0.mk (Below.refl w.heap.size w)
  have H : ((virgateref01_Byte.f k a0 0).bind fun t20101 => ((virgateref01_num.f k t20101).bind fun t20102 => (if t20102.size + 1 ≤ 9223372036854775807 then ((virgateref01_Byte.f k a0 1).bind fun t20103 => ((virgateref01_num.f k t20103).bind fun t20104 => (if (t20102 ++ (⟨#[46]⟩ : ByteArray)).size + t20104.size ≤ 9223372036854775807 then (if ((t20102 ++ (⟨#[46]⟩ : ByteArray)) ++ t20104).size + 1 ≤ 9223372036854775807 then ((virgateref01_Byte.f k a0 2).bind fun t20105 => ((virgateref01_num.f k t20105).bind fun t20106 => (if (((t20102 ++ (⟨#[46]⟩ : ByteArray)) ++ t20104) ++ (⟨#[46]⟩ : ByteArray)).size + t20106.size ≤ 9223372036854775807 then (if ((((t20102 ++ (⟨#[46]⟩ : ByteArray)) ++ t20104) ++ (⟨#[46]⟩ : ByteArray)) ++ t20106).size + 1 ≤ 9223372036854775807 then ((virgateref01_Byte.f k a0 3).bind fun t20107 => ((virgateref01_num.f k t20107).bind fun t20108 => (if (((((t20102 ++ (⟨#[46]⟩ : ByteArray)) ++ t20104) ++ (⟨#[46]⟩ : ByteArray)) ++ t20106) ++ (⟨#[46]⟩ : ByteArray)).size + t20108.size ≤ 9223372036854775807 then (some ((((((t20102 ++ (⟨#[46]⟩ : ByteArray)) ++ t20104) ++ (⟨#[46]⟩ : ByteArray)) ++ t20106) ++ (⟨#[46]⟩ : ByteArray)) ++ t20108)) else (none)))) else (none)) else (none)))) else (none)) else (none)))) else (none)))) = some r := h
  clear h
  replace H := Option.bind_eq_some_iff.mp H
  obtain ⟨t20101, A20, H⟩ := H
  replace H : ((virgateref01_num.f k t20101).bind fun t20102 => (if t20102.size + 1 ≤ 9223372036854775807 then ((virgateref01_Byte.f k a0 1).bind fun t20103 => ((virgateref01_num.f k t20103).bind fun t20104 => (if (t20102 ++ (⟨#[46]⟩ : ByteArray)).size + t20104.size ≤ 9223372036854775807 then (if ((t20102 ++ (⟨#[46]⟩ : ByteArray)) ++ t20104).size + 1 ≤ 9223372036854775807 then ((virgateref01_Byte.f k a0 2).bind fun t20105 => ((virgateref01_num.f k t20105).bind fun t20106 => (if (((t20102 ++ (⟨#[46]⟩ : ByteArray)) ++ t20104) ++ (⟨#[46]⟩ : ByteArray)).size + t20106.size ≤ 9223372036854775807 then (if ((((t20102 ++ (⟨#[46]⟩ : ByteArray)) ++ t20104) ++ (⟨#[46]⟩ : ByteArray)) ++ t20106).size + 1 ≤ 9223372036854775807 then ((virgateref01_Byte.f k a0 3).bind fun t20107 => ((virgateref01_num.f k t20107).bind fun t20108 => (if (((((t20102 ++ (⟨#[46]⟩ : ByteArray)) ++ t20104) ++ (⟨#[46]⟩ : ByteArray)) ++ t20106) ++ (⟨#[46]⟩ : ByteArray)).size + t20108.size ≤ 9223372036854775807 then (some ((((((t20102 ++ (⟨#[46]⟩ : ByteArray)) ++ t20104) ++ (⟨#[46]⟩ : ByteArray)) ++ t20106) ++ (⟨#[46]⟩ : ByteArray)) ++ t20108)) else (none)))) else (none)) else (none)))) else (none)) else (none)))) else (none))) = some r := H
  have A2 := Aside0.mk A20
  clear A20
  replace H := Option.bind_eq_some_iff.mp H
  obtain ⟨t20102, A30, H⟩ := H
  replace H : (if t20102.size + 1 ≤ 9223372036854775807 then ((virgateref01_Byte.f k a0 1).bind fun t20103 => ((virgateref01_num.f k t20103).bind fun t20104 => (if (t20102 ++ (⟨#[46]⟩ : ByteArray)).size + t20104.size ≤ 9223372036854775807 then (if ((t20102 ++ (⟨#[46]⟩ : ByteArray)) ++ t20104).size + 1 ≤ 9223372036854775807 then ((virgateref01_Byte.f k a0 2).bind fun t20105 => ((virgateref01_num.f k t20105).bind fun t20106 => (if (((t20102 ++ (⟨#[46]⟩ : ByteArray)) ++ t20104) ++ (⟨#[46]⟩ : ByteArray)).size + t20106.size ≤ 9223372036854775807 then (if ((((t20102 ++ (⟨#[46]⟩ : ByteArray)) ++ t20104) ++ (⟨#[46]⟩ : ByteArray)) ++ t20106).size + 1 ≤ 9223372036854775807 then ((virgateref01_Byte.f k a0 3).bind fun t20107 => ((virgateref01_num.f k t20107).bind fun t20108 => (if (((((t20102 ++ (⟨#[46]⟩ : ByteArray)) ++ t20104) ++ (⟨#[46]⟩ : ByteArray)) ++ t20106) ++ (⟨#[46]⟩ : ByteArray)).size + t20108.size ≤ 9223372036854775807 then (some ((((((t20102 ++ (⟨#[46]⟩ : ByteArray)) ++ t20104) ++ (⟨#[46]⟩ : ByteArray)) ++ t20106) ++ (⟨#[46]⟩ : ByteArray)) ++ t20108)) else (none)))) else (none)) else (none)))) else (none)) else (none)))) else (none)) = some r := H
  have A3 := Aside0.mk A30
  clear A30
  by_cases c4 : t20102.size + 1 ≤ 9223372036854775807
  · rw [if_pos c4] at H
    have c4b0 := eq_true c4
    have c4b1 : decide (t20102.size + 1 ≤ 9223372036854775807) = true := decide_eq_true c4
    try have c4b2 : (9223372036854775807 < t20102.size + 1) = False := eq_false (Nat.not_lt.2 c4)
    replace H := Option.bind_eq_some_iff.mp H
    obtain ⟨t20103, A50, H⟩ := H
    replace H : ((virgateref01_num.f k t20103).bind fun t20104 => (if (t20102 ++ (⟨#[46]⟩ : ByteArray)).size + t20104.size ≤ 9223372036854775807 then (if ((t20102 ++ (⟨#[46]⟩ : ByteArray)) ++ t20104).size + 1 ≤ 9223372036854775807 then ((virgateref01_Byte.f k a0 2).bind fun t20105 => ((virgateref01_num.f k t20105).bind fun t20106 => (if (((t20102 ++ (⟨#[46]⟩ : ByteArray)) ++ t20104) ++ (⟨#[46]⟩ : ByteArray)).size + t20106.size ≤ 9223372036854775807 then (if ((((t20102 ++ (⟨#[46]⟩ : ByteArray)) ++ t20104) ++ (⟨#[46]⟩ : ByteArray)) ++ t20106).size + 1 ≤ 9223372036854775807 then ((virgateref01_Byte.f k a0 3).bind fun t20107 => ((virgateref01_num.f k t20107).bind fun t20108 => (if (((((t20102 ++ (⟨#[46]⟩ : ByteArray)) ++ t20104) ++ (⟨#[46]⟩ : ByteArray)) ++ t20106) ++ (⟨#[46]⟩ : ByteArray)).size + t20108.size ≤ 9223372036854775807 then (some ((((((t20102 ++ (⟨#[46]⟩ : ByteArray)) ++ t20104) ++ (⟨#[46]⟩ : ByteArray)) ++ t20106) ++ (⟨#[46]⟩ : ByteArray)) ++ t20108)) else (none)))) else (none)) else (none)))) else (none)) else (none))) = some r := H
    have A5 := Aside0.mk A50
    clear A50
    replace H := Option.bind_eq_some_iff.mp H
    obtain ⟨t20104, A60, H⟩ := H
    replace H : (if (t20102 ++ (⟨#[46]⟩ : ByteArray)).size + t20104.size ≤ 9223372036854775807 then (if ((t20102 ++ (⟨#[46]⟩ : ByteArray)) ++ t20104).size + 1 ≤ 9223372036854775807 then ((virgateref01_Byte.f k a0 2).bind fun t20105 => ((virgateref01_num.f k t20105).bind fun t20106 => (if (((t20102 ++ (⟨#[46]⟩ : ByteArray)) ++ t20104) ++ (⟨#[46]⟩ : ByteArray)).size + t20106.size ≤ 9223372036854775807 then (if ((((t20102 ++ (⟨#[46]⟩ : ByteArray)) ++ t20104) ++ (⟨#[46]⟩ : ByteArray)) ++ t20106).size + 1 ≤ 9223372036854775807 then ((virgateref01_Byte.f k a0 3).bind fun t20107 => ((virgateref01_num.f k t20107).bind fun t20108 => (if (((((t20102 ++ (⟨#[46]⟩ : ByteArray)) ++ t20104) ++ (⟨#[46]⟩ : ByteArray)) ++ t20106) ++ (⟨#[46]⟩ : ByteArray)).size + t20108.size ≤ 9223372036854775807 then (some ((((((t20102 ++ (⟨#[46]⟩ : ByteArray)) ++ t20104) ++ (⟨#[46]⟩ : ByteArray)) ++ t20106) ++ (⟨#[46]⟩ : ByteArray)) ++ t20108)) else (none)))) else (none)) else (none)))) else (none)) else (none)) = some r := H
    have A6 := Aside0.mk A60
    clear A60
    by_cases c7 : (t20102 ++ (⟨#[46]⟩ : ByteArray)).size + t20104.size ≤ 9223372036854775807
    · rw [if_pos c7] at H
      have c7b0 := eq_true c7
      have c7b1 : decide ((t20102 ++ (⟨#[46]⟩ : ByteArray)).size + t20104.size ≤ 9223372036854775807) = true := decide_eq_true c7
      try have c7b2 : (9223372036854775807 < (t20102 ++ (⟨#[46]⟩ : ByteArray)).size + t20104.size) = False := eq_false (Nat.not_lt.2 c7)
      try have c7s1 : ¬ 9223372036854775807 < t20102.size + 1 + t20104.size := by have h_ := c7; simp only [ByteArray.size_append] at h_; exact Nat.not_lt.2 h_
      try have c7s2 := eq_false c7s1
      by_cases c8 : ((t20102 ++ (⟨#[46]⟩ : ByteArray)) ++ t20104).size + 1 ≤ 9223372036854775807
      · rw [if_pos c8] at H
        have c8b0 := eq_true c8
        have c8b1 : decide (((t20102 ++ (⟨#[46]⟩ : ByteArray)) ++ t20104).size + 1 ≤ 9223372036854775807) = true := decide_eq_true c8
        try have c8b2 : (9223372036854775807 < ((t20102 ++ (⟨#[46]⟩ : ByteArray)) ++ t20104).size + 1) = False := eq_false (Nat.not_lt.2 c8)
        try have c8s1 : ¬ 9223372036854775807 < t20102.size + 1 + t20104.size + 1 := by have h_ := c8; simp only [ByteArray.size_append] at h_; exact Nat.not_lt.2 h_
        try have c8s2 := eq_false c8s1
        replace H := Option.bind_eq_some_iff.mp H
        obtain ⟨t20105, A90, H⟩ := H
        replace H : ((virgateref01_num.f k t20105).bind fun t20106 => (if (((t20102 ++ (⟨#[46]⟩ : ByteArray)) ++ t20104) ++ (⟨#[46]⟩ : ByteArray)).size + t20106.size ≤ 9223372036854775807 then (if ((((t20102 ++ (⟨#[46]⟩ : ByteArray)) ++ t20104) ++ (⟨#[46]⟩ : ByteArray)) ++ t20106).size + 1 ≤ 9223372036854775807 then ((virgateref01_Byte.f k a0 3).bind fun t20107 => ((virgateref01_num.f k t20107).bind fun t20108 => (if (((((t20102 ++ (⟨#[46]⟩ : ByteArray)) ++ t20104) ++ (⟨#[46]⟩ : ByteArray)) ++ t20106) ++ (⟨#[46]⟩ : ByteArray)).size + t20108.size ≤ 9223372036854775807 then (some ((((((t20102 ++ (⟨#[46]⟩ : ByteArray)) ++ t20104) ++ (⟨#[46]⟩ : ByteArray)) ++ t20106) ++ (⟨#[46]⟩ : ByteArray)) ++ t20108)) else (none)))) else (none)) else (none))) = some r := H
        have A9 := Aside0.mk A90
        clear A90
        replace H := Option.bind_eq_some_iff.mp H
        obtain ⟨t20106, A100, H⟩ := H
        replace H : (if (((t20102 ++ (⟨#[46]⟩ : ByteArray)) ++ t20104) ++ (⟨#[46]⟩ : ByteArray)).size + t20106.size ≤ 9223372036854775807 then (if ((((t20102 ++ (⟨#[46]⟩ : ByteArray)) ++ t20104) ++ (⟨#[46]⟩ : ByteArray)) ++ t20106).size + 1 ≤ 9223372036854775807 then ((virgateref01_Byte.f k a0 3).bind fun t20107 => ((virgateref01_num.f k t20107).bind fun t20108 => (if (((((t20102 ++ (⟨#[46]⟩ : ByteArray)) ++ t20104) ++ (⟨#[46]⟩ : ByteArray)) ++ t20106) ++ (⟨#[46]⟩ : ByteArray)).size + t20108.size ≤ 9223372036854775807 then (some ((((((t20102 ++ (⟨#[46]⟩ : ByteArray)) ++ t20104) ++ (⟨#[46]⟩ : ByteArray)) ++ t20106) ++ (⟨#[46]⟩ : ByteArray)) ++ t20108)) else (none)))) else (none)) else (none)) = some r := H
        have A10 := Aside0.mk A100
        clear A100
        by_cases c11 : (((t20102 ++ (⟨#[46]⟩ : ByteArray)) ++ t20104) ++ (⟨#[46]⟩ : ByteArray)).size + t20106.size ≤ 9223372036854775807
        · rw [if_pos c11] at H
          have c11b0 := eq_true c11
          have c11b1 : decide ((((t20102 ++ (⟨#[46]⟩ : ByteArray)) ++ t20104) ++ (⟨#[46]⟩ : ByteArray)).size + t20106.size ≤ 9223372036854775807) = true := decide_eq_true c11
          try have c11b2 : (9223372036854775807 < (((t20102 ++ (⟨#[46]⟩ : ByteArray)) ++ t20104) ++ (⟨#[46]⟩ : ByteArray)).size + t20106.size) = False := eq_false (Nat.not_lt.2 c11)
          try have c11s1 : ¬ 9223372036854775807 < t20102.size + 1 + t20104.size + 1 + t20106.size := by have h_ := c11; simp only [ByteArray.size_append] at h_; exact Nat.not_lt.2 h_
          try have c11s2 := eq_false c11s1
          by_cases c12 : ((((t20102 ++ (⟨#[46]⟩ : ByteArray)) ++ t20104) ++ (⟨#[46]⟩ : ByteArray)) ++ t20106).size + 1 ≤ 9223372036854775807
          · rw [if_pos c12] at H
            have c12b0 := eq_true c12
            have c12b1 : decide (((((t20102 ++ (⟨#[46]⟩ : ByteArray)) ++ t20104) ++ (⟨#[46]⟩ : ByteArray)) ++ t20106).size + 1 ≤ 9223372036854775807) = true := decide_eq_true c12
            try have c12b2 : (9223372036854775807 < ((((t20102 ++ (⟨#[46]⟩ : ByteArray)) ++ t20104) ++ (⟨#[46]⟩ : ByteArray)) ++ t20106).size + 1) = False := eq_false (Nat.not_lt.2 c12)
            try have c12s1 : ¬ 9223372036854775807 < t20102.size + 1 + t20104.size + 1 + t20106.size + 1 := by have h_ := c12; simp only [ByteArray.size_append] at h_; exact Nat.not_lt.2 h_
            try have c12s2 := eq_false c12s1
            replace H := Option.bind_eq_some_iff.mp H
            obtain ⟨t20107, A130, H⟩ := H
            replace H : ((virgateref01_num.f k t20107).bind fun t20108 => (if (((((t20102 ++ (⟨#[46]⟩ : ByteArray)) ++ t20104) ++ (⟨#[46]⟩ : ByteArray)) ++ t20106) ++ (⟨#[46]⟩ : ByteArray)).size + t20108.size ≤ 9223372036854775807 then (some ((((((t20102 ++ (⟨#[46]⟩ : ByteArray)) ++ t20104) ++ (⟨#[46]⟩ : ByteArray)) ++ t20106) ++ (⟨#[46]⟩ : ByteArray)) ++ t20108)) else (none))) = some r := H
            have A13 := Aside0.mk A130
            clear A130
            replace H := Option.bind_eq_some_iff.mp H
            obtain ⟨t20108, A140, H⟩ := H
            replace H : (if (((((t20102 ++ (⟨#[46]⟩ : ByteArray)) ++ t20104) ++ (⟨#[46]⟩ : ByteArray)) ++ t20106) ++ (⟨#[46]⟩ : ByteArray)).size + t20108.size ≤ 9223372036854775807 then (some ((((((t20102 ++ (⟨#[46]⟩ : ByteArray)) ++ t20104) ++ (⟨#[46]⟩ : ByteArray)) ++ t20106) ++ (⟨#[46]⟩ : ByteArray)) ++ t20108)) else (none)) = some r := H
            have A14 := Aside0.mk A140
            clear A140
            by_cases c15 : (((((t20102 ++ (⟨#[46]⟩ : ByteArray)) ++ t20104) ++ (⟨#[46]⟩ : ByteArray)) ++ t20106) ++ (⟨#[46]⟩ : ByteArray)).size + t20108.size ≤ 9223372036854775807
            · rw [if_pos c15] at H
              have c15b0 := eq_true c15
              have c15b1 : decide ((((((t20102 ++ (⟨#[46]⟩ : ByteArray)) ++ t20104) ++ (⟨#[46]⟩ : ByteArray)) ++ t20106) ++ (⟨#[46]⟩ : ByteArray)).size + t20108.size ≤ 9223372036854775807) = true := decide_eq_true c15
              try have c15b2 : (9223372036854775807 < (((((t20102 ++ (⟨#[46]⟩ : ByteArray)) ++ t20104) ++ (⟨#[46]⟩ : ByteArray)) ++ t20106) ++ (⟨#[46]⟩ : ByteArray)).size + t20108.size) = False := eq_false (Nat.not_lt.2 c15)
              try have c15s1 : ¬ 9223372036854775807 < t20102.size + 1 + t20104.size + 1 + t20106.size + 1 + t20108.size := by have h_ := c15; simp only [ByteArray.size_append] at h_; exact Nat.not_lt.2 h_
              try have c15s2 := eq_false c15s1
              obtain rfl := Option.some.inj H
              go_enter Tryd.func20, Tryd.ntmps20
              go_wp2_with (first | ((with_reducible refine gate_callee (f := 24) rfl ?_); refine goesL_ (some 4) rfl rfl Tryd.func24 (by kernel_rfl) rfl #[.int .u32 a0, .int .i64 0] rfl (by (try simp only [List.map_toArray, List.map_cons, List.map_nil]); first | done | rfl | (simp only [List.length_drop, List.length_take]; rfl)) ?_; (with_reducible refine (virgateref01_Byte.calls k a0 0 t20101 _ A2.out).mono ?_); rintro e w' ⟨rfl, ⟨nd, rfl⟩⟩; refine ⟨_, rfl, ?_⟩) | ((with_reducible refine gate_callee (f := 78) rfl ?_); refine goesL_ (some 5) rfl rfl Tryd.func78 (by kernel_rfl) rfl #[.int .i64 t20101] rfl (by (try simp only [List.map_toArray, List.map_cons, List.map_nil]); first | done | rfl | (simp only [List.length_drop, List.length_take]; rfl)) ?_; (with_reducible refine (virgateref01_num.calls k t20101 t20102 _ A3.out).mono ?_); rintro e w16 ⟨rfl, hb⟩; refine ⟨_, rfl, ?_⟩; have n0_ := Aside0.mk (below_step (by repeat (first | (with_reducible first | exact HB.out | apply below_alloc | apply pw_below_drewN | apply below_drew1) | exact HB.out)) hb); clear HB; have HB := n0_; clear n0_; (try clear hb); (try clear hb2); (try clear hk); (try clear hi)) | ((with_reducible refine gate_callee (f := 24) rfl ?_); refine goesL_ (some 8) rfl rfl Tryd.func24 (by kernel_rfl) rfl #[.int .u32 a0, .int .i64 1] rfl (by (try simp only [List.map_toArray, List.map_cons, List.map_nil]); first | done | rfl | (simp only [List.length_drop, List.length_take]; rfl)) ?_; (with_reducible refine (virgateref01_Byte.calls k a0 1 t20103 _ A5.out).mono ?_); rintro e w' ⟨rfl, ⟨nd, rfl⟩⟩; refine ⟨_, rfl, ?_⟩) | ((with_reducible refine gate_callee (f := 78) rfl ?_); refine goesL_ (some 9) rfl rfl Tryd.func78 (by kernel_rfl) rfl #[.int .i64 t20103] rfl (by (try simp only [List.map_toArray, List.map_cons, List.map_nil]); first | done | rfl | (simp only [List.length_drop, List.length_take]; rfl)) ?_; (with_reducible refine (virgateref01_num.calls k t20103 t20104 _ A6.out).mono ?_); rintro e w17 ⟨rfl, hb⟩; refine ⟨_, rfl, ?_⟩; have n0_ := Aside0.mk (below_step (by repeat (first | (with_reducible first | exact HB.out | apply below_alloc | apply pw_below_drewN | apply below_drew1) | exact HB.out)) hb); clear HB; have HB := n0_; clear n0_; (try clear hb); (try clear hb2); (try clear hk); (try clear hi)) | ((with_reducible refine gate_callee (f := 24) rfl ?_); refine goesL_ (some 13) rfl rfl Tryd.func24 (by kernel_rfl) rfl #[.int .u32 a0, .int .i64 2] rfl (by (try simp only [List.map_toArray, List.map_cons, List.map_nil]); first | done | rfl | (simp only [List.length_drop, List.length_take]; rfl)) ?_; (with_reducible refine (virgateref01_Byte.calls k a0 2 t20105 _ A9.out).mono ?_); rintro e w' ⟨rfl, ⟨nd, rfl⟩⟩; refine ⟨_, rfl, ?_⟩) | ((with_reducible refine gate_callee (f := 78) rfl ?_); refine goesL_ (some 14) rfl rfl Tryd.func78 (by kernel_rfl) rfl #[.int .i64 t20105] rfl (by (try simp only [List.map_toArray, List.map_cons, List.map_nil]); first | done | rfl | (simp only [List.length_drop, List.length_take]; rfl)) ?_; (with_reducible refine (virgateref01_num.calls k t20105 t20106 _ A10.out).mono ?_); rintro e w18 ⟨rfl, hb⟩; refine ⟨_, rfl, ?_⟩; have n0_ := Aside0.mk (below_step (by repeat (first | (with_reducible first | exact HB.out | apply below_alloc | apply pw_below_drewN | apply below_drew1) | exact HB.out)) hb); clear HB; have HB := n0_; clear n0_; (try clear hb); (try clear hb2); (try clear hk); (try clear hi)) | ((with_reducible refine gate_callee (f := 24) rfl ?_); refine goesL_ (some 18) rfl rfl Tryd.func24 (by kernel_rfl) rfl #[.int .u32 a0, .int .i64 3] rfl (by (try simp only [List.map_toArray, List.map_cons, List.map_nil]); first | done | rfl | (simp only [List.length_drop, List.length_take]; rfl)) ?_; (with_reducible refine (virgateref01_Byte.calls k a0 3 t20107 _ A13.out).mono ?_); rintro e w' ⟨rfl, ⟨nd, rfl⟩⟩; refine ⟨_, rfl, ?_⟩) | ((with_reducible refine gate_callee (f := 78) rfl ?_); refine goesL_ (some 19) rfl rfl Tryd.func78 (by kernel_rfl) rfl #[.int .i64 t20107] rfl (by (try simp only [List.map_toArray, List.map_cons, List.map_nil]); first | done | rfl | (simp only [List.length_drop, List.length_take]; rfl)) ?_; (with_reducible refine (virgateref01_num.calls k t20107 t20108 _ A14.out).mono ?_); rintro e w19 ⟨rfl, hb⟩; refine ⟨_, rfl, ?_⟩; have n0_ := Aside0.mk (below_step (by repeat (first | (with_reducible first | exact HB.out | apply below_alloc | apply pw_below_drewN | apply below_drew1) | exact HB.out)) hb); clear HB; have HB := n0_; clear n0_; (try clear hb); (try clear hb2); (try clear hk); (try clear hi)))
              go_ret
              exact ⟨by first | rfl | (simp [errW_none, errW_some] <;> rfl) | (simp [*, errW_none, errW_some] <;> rfl), by repeat (first | (with_reducible first | exact HB.out | apply below_alloc | apply pw_below_drewN | apply below_drew1) | exact HB.out)⟩
            · rw [if_neg c15] at H
              exact absurd H (by simp)
          · rw [if_neg c12] at H
            exact absurd H (by simp)
        · rw [if_neg c11] at H
          exact absurd H (by simp)
      · rw [if_neg c8] at H
        exact absurd H (by simp)
    · rw [if_neg c7] at H
      exact absurd H (by simp)
  · rw [if_neg c4] at H
    exact absurd H (by simp)

end Go.Proofs.YtcdopgkkieenjaaDoor.V
end

-- VFVirgatelaw01Ipprint
section
-- PRINTED by print.py (a twelfth state) out of the translation. Not trusted: Lean checks it.
namespace Go.Proofs.YtcdopgkkieenjaaDoor.V
open Go.RowKit Go.Proofs.YtcdopgkkieenjaaDoorW.PrintWords Go.Proofs.YtcdopgkkieenjaaDoorW.PrintLast Go.Proofs.YtcdopgkkieenjaaDoorW.PrintMore
attribute [local go_sem] max2_int min2_int max_two min_two max_three min_three max_four min_four   -- for this text's walks alone
set_option linter.unusedVariables false
set_option linter.unusedSimpArgs false

/-! ### virgatelaw01_IpPrint: function 3 -/
def virgatelaw01_IpPrint.f (k : Nat) (a0 : Int) : Option (Bool) := (ip_Print.f a0).bind fun t3101 => ((ip_Parse.f t3101).bind fun bt3102 => ((virgateref01_Print.f k a0).bind fun t3104 => (if t3101.toList = t3104.toList then (if bt3102.1 = a0 then (if bt3102.2 = 0 then ((virgatelaw01_awake.f).bind fun t3105 => (some t3105)) else (some false)) else (some false)) else (some false))))
theorem virgatelaw01_IpPrint.mono : ∀ a0 k, LeO (virgatelaw01_IpPrint.f k a0) (virgatelaw01_IpPrint.f (k + 1) a0) := by
  intro a0 k
  unfold virgatelaw01_IpPrint.f
  repeat' first
      | (with_reducible exact virgateref01_Print.mono _ _)
      | (with_reducible exact LeO.refl _)
      | (with_reducible exact LeO.none _)
      | (with_reducible refine LeO.ite ?_ ?_)
      | (with_reducible refine LeO.bind ?_ (fun _ => ?_))
      | exact virgateref01_Print.mono _ _
      | exact LeO.none _
      | refine LeO.ite ?_ ?_
      | refine LeO.bind ?_ (fun _ => ?_)
set_option maxHeartbeats 8000000 in
set_option maxRecDepth 100000 in
theorem virgatelaw01_IpPrint.calls (k : Nat) (a0 : Int) (r : Bool) (w : World) (h : virgatelaw01_IpPrint.f k a0 = some r) :
    Calls Tryd.prog 3 #[.int .u32 a0] w fun e w' => e = .returned (.bool r) ∧ Below w.heap.size w w' := by
  have HB := Aside0.mk (Below.refl w.heap.size w)
  have H : ((ip_Print.f a0).bind fun t3101 => ((ip_Parse.f t3101).bind fun bt3102 => ((virgateref01_Print.f k a0).bind fun t3104 => (if t3101.toList = t3104.toList then (if bt3102.1 = a0 then (if bt3102.2 = 0 then ((virgatelaw01_awake.f).bind fun t3105 => (some t3105)) else (some false)) else (some false)) else (some false))))) = some r := h
  clear h
  replace H := Option.bind_eq_some_iff.mp H
  obtain ⟨t3101, A20, H⟩ := H
  replace H : ((ip_Parse.f t3101).bind fun bt3102 => ((virgateref01_Print.f k a0).bind fun t3104 => (if t3101.toList = t3104.toList then (if bt3102.1 = a0 then (if bt3102.2 = 0 then ((virgatelaw01_awake.f).bind fun t3105 => (some t3105)) else (some false)) else (some false)) else (some false)))) = some r := H
  have A2 := Aside0.mk A20
  clear A20
  replace H := Option.bind_eq_some_iff.mp H
  obtain ⟨⟨t3102, t3103⟩, A30, H⟩ := H
  replace H : ((virgateref01_Print.f k a0).bind fun t3104 => (if t3101.toList = t3104.toList then (if t3102 = a0 then (if t3103 = 0 then ((virgatelaw01_awake.f).bind fun t3105 => (some t3105)) else (some false)) else (some false)) else (some false))) = some r := H
  have A3 := Aside0.mk A30
  clear A30
  replace H := Option.bind_eq_some_iff.mp H
  obtain ⟨t3104, A40, H⟩ := H
  replace H : (if t3101.toList = t3104.toList then (if t3102 = a0 then (if t3103 = 0 then ((virgatelaw01_awake.f).bind fun t3105 => (some t3105)) else (some false)) else (some false)) else (some false)) = some r := H
  have A4 := Aside0.mk A40
  clear A40
  by_cases c5 : t3101.toList = t3104.toList
  · rw [if_pos c5] at H
    have c5b0 : (t3101.toList == t3104.toList) = true := beq_iff_eq.mpr c5
    have c5b1 : (t3101.toList != t3104.toList) = false := bne_eq_false_iff_eq.mpr c5
    clear c5
    by_cases c6 : t3102 = a0
    · rw [if_pos c6] at H
      have c6b0 : (t3102 == a0) = true := beq_iff_eq.mpr c6
      have c6b1 : (t3102 != a0) = false := bne_eq_false_iff_eq.mpr c6
      clear c6
      by_cases c7 : t3103 = 0
      · rw [if_pos c7] at H
        have c7b0 : (t3103 == 0) = true := beq_iff_eq.mpr c7
        have c7b1 : (t3103 != 0) = false := bne_eq_false_iff_eq.mpr c7
        clear c7
        replace H := Option.bind_eq_some_iff.mp H
        obtain ⟨t3105, A80, H⟩ := H
        replace H : (some t3105) = some r := H
        have A8 := Aside0.mk A80
        clear A80
        obtain rfl := Option.some.inj H
        go_enter Tryd.func3, Tryd.ntmps3
        go_wp2_with (first | ((with_reducible refine gate_callee (f := 18) rfl ?_); refine goesL_ (some 7) rfl rfl Tryd.func18 (by kernel_rfl) rfl #[.int .u32 a0] rfl (by (try simp only [List.map_toArray, List.map_cons, List.map_nil]); first | done | rfl | (simp only [List.length_drop, List.length_take]; rfl)) ?_; (with_reducible refine (ip_Print.calls a0 t3101 _ A2.out).mono ?_); rintro e w9 ⟨rfl, hb⟩; refine ⟨_, rfl, ?_⟩; have n0_ := Aside0.mk (below_step (by repeat (first | (with_reducible first | exact HB.out | apply below_alloc | apply pw_below_drewN | apply below_drew1) | exact HB.out)) hb); clear HB; have HB := n0_; clear n0_; (try clear hb); (try clear hb2); (try clear hk); (try clear hi)) | ((with_reducible refine gate_callee (f := 19) rfl ?_); refine goesL_ (some 10) rfl rfl Tryd.func19 (by kernel_rfl) rfl #[.string t3101] rfl (by (try simp only [List.map_toArray, List.map_cons, List.map_nil]); first | done | rfl | (simp only [List.length_drop, List.length_take]; rfl)) ?_; (with_reducible refine (ip_Parse.calls t3101 t3102 t3103 _ A3.out).mono ?_); rintro e w10 ⟨rfl, hb⟩; refine ⟨_, rfl, ?_⟩; have n0_ := Aside0.mk (below_step (by repeat (first | (with_reducible first | exact HB.out | apply below_alloc | apply pw_below_drewN | apply below_drew1) | exact HB.out)) hb); clear HB; have HB := n0_; clear n0_; (try clear hb); (try clear hb2); (try clear hk); (try clear hi)) | ((with_reducible refine gate_callee (f := 20) rfl ?_); refine goesL_ (some 15) rfl rfl Tryd.func20 (by kernel_rfl) rfl #[.int .u32 a0] rfl (by (try simp only [List.map_toArray, List.map_cons, List.map_nil]); first | done | rfl | (simp only [List.length_drop, List.length_take]; rfl)) ?_; (with_reducible refine (virgateref01_Print.calls k a0 t3104 _ A4.out).mono ?_); rintro e w11 ⟨rfl, hb⟩; refine ⟨_, rfl, ?_⟩; have n0_ := Aside0.mk (below_step (by repeat (first | (with_reducible first | exact HB.out | apply below_alloc | apply pw_below_drewN | apply below_drew1) | exact HB.out)) hb); clear HB; have HB := n0_; clear n0_; (try clear hb); (try clear hb2); (try clear hk); (try clear hi)) | (go_at_call 21; (with_reducible refine (virgatelaw01_awake.calls  t3105 _ A8.out).mono ?_); rintro e w12 ⟨rfl, hb⟩; have n0_ := Aside0.mk (below_step (by repeat (first | (with_reducible first | exact HB.out | apply below_alloc | apply pw_below_drewN | apply below_drew1) | exact HB.out)) hb); clear HB; have HB := n0_; clear n0_; (try clear hb); (try clear hb2); (try clear hk); (try clear hi)))
        go_ret
        exact ⟨by first | rfl | (simp [errW_none, errW_some] <;> rfl) | (simp [*, errW_none, errW_some] <;> rfl), by repeat (first | (with_reducible first | exact HB.out | apply below_alloc | apply pw_below_drewN | apply below_drew1) | exact HB.out)⟩
      · rw [if_neg c7] at H
        have c7b0 : (t3103 == 0) = false := beq_eq_false_iff_ne.mpr c7
        have c7b1 : (t3103 != 0) = true := bne_iff_ne.mpr c7
        obtain rfl := Option.some.inj H
        go_enter Tryd.func3, Tryd.ntmps3
        go_wp2_with (first | ((with_reducible refine gate_callee (f := 18) rfl ?_); refine goesL_ (some 7) rfl rfl Tryd.func18 (by kernel_rfl) rfl #[.int .u32 a0] rfl (by (try simp only [List.map_toArray, List.map_cons, List.map_nil]); first | done | rfl | (simp only [List.length_drop, List.length_take]; rfl)) ?_; (with_reducible refine (ip_Print.calls a0 t3101 _ A2.out).mono ?_); rintro e w13 ⟨rfl, hb⟩; refine ⟨_, rfl, ?_⟩; have n0_ := Aside0.mk (below_step (by repeat (first | (with_reducible first | exact HB.out | apply below_alloc | apply pw_below_drewN | apply below_drew1) | exact HB.out)) hb); clear HB; have HB := n0_; clear n0_; (try clear hb); (try clear hb2); (try clear hk); (try clear hi)) | ((with_reducible refine gate_callee (f := 19) rfl ?_); refine goesL_ (some 10) rfl rfl Tryd.func19 (by kernel_rfl) rfl #[.string t3101] rfl (by (try simp only [List.map_toArray, List.map_cons, List.map_nil]); first | done | rfl | (simp only [List.length_drop, List.length_take]; rfl)) ?_; (with_reducible refine (ip_Parse.calls t3101 t3102 t3103 _ A3.out).mono ?_); rintro e w14 ⟨rfl, hb⟩; refine ⟨_, rfl, ?_⟩; have n0_ := Aside0.mk (below_step (by repeat (first | (with_reducible first | exact HB.out | apply below_alloc | apply pw_below_drewN | apply below_drew1) | exact HB.out)) hb); clear HB; have HB := n0_; clear n0_; (try clear hb); (try clear hb2); (try clear hk); (try clear hi)) | ((with_reducible refine gate_callee (f := 20) rfl ?_); refine goesL_ (some 15) rfl rfl Tryd.func20 (by kernel_rfl) rfl #[.int .u32 a0] rfl (by (try simp only [List.map_toArray, List.map_cons, List.map_nil]); first | done | rfl | (simp only [List.length_drop, List.length_take]; rfl)) ?_; (with_reducible refine (virgateref01_Print.calls k a0 t3104 _ A4.out).mono ?_); rintro e w15 ⟨rfl, hb⟩; refine ⟨_, rfl, ?_⟩; have n0_ := Aside0.mk (below_step (by repeat (first | (with_reducible first | exact HB.out | apply below_alloc | apply pw_below_drewN | apply below_drew1) | exact HB.out)) hb); clear HB; have HB := n0_; clear n0_; (try clear hb); (try clear hb2); (try clear hk); (try clear hi)))
        go_ret
        exact ⟨by first | rfl | (simp [errW_none, errW_some] <;> rfl) | (simp [*, errW_none, errW_some] <;> rfl), by repeat (first | (with_reducible first | exact HB.out | apply below_alloc | apply pw_below_drewN | apply below_drew1) | exact HB.out)⟩
    · rw [if_neg c6] at H
      have c6b0 : (t3102 == a0) = false := beq_eq_false_iff_ne.mpr c6
      have c6b1 : (t3102 != a0) = true := bne_iff_ne.mpr c6
      obtain rfl := Option.some.inj H
      go_enter Tryd.func3, Tryd.ntmps3
      go_wp2_with (first | ((with_reducible refine gate_callee (f := 18) rfl ?_); refine goesL_ (some 7) rfl rfl Tryd.func18 (by kernel_rfl) rfl #[.int .u32 a0] rfl (by (try simp only [List.map_toArray, List.map_cons, List.map_nil]); first | done | rfl | (simp only [List.length_drop, List.length_take]; rfl)) ?_; (with_reducible refine (ip_Print.calls a0 t3101 _ A2.out).mono ?_); rintro e w16 ⟨rfl, hb⟩; refine ⟨_, rfl, ?_⟩; have n0_ := Aside0.mk (below_step (by repeat (first | (with_reducible first | exact HB.out | apply below_alloc | apply pw_below_drewN | apply below_drew1) | exact HB.out)) hb); clear HB; have HB := n0_; clear n0_; (try clear hb); (try clear hb2); (try clear hk); (try clear hi)) | ((with_reducible refine gate_callee (f := 19) rfl ?_); refine goesL_ (some 10) rfl rfl Tryd.func19 (by kernel_rfl) rfl #[.string t3101] rfl (by (try simp only [List.map_toArray, List.map_cons, List.map_nil]); first | done | rfl | (simp only [List.length_drop, List.length_take]; rfl)) ?_; (with_reducible refine (ip_Parse.calls t3101 t3102 t3103 _ A3.out).mono ?_); rintro e w17 ⟨rfl, hb⟩; refine ⟨_, rfl, ?_⟩; have n0_ := Aside0.mk (below_step (by repeat (first | (with_reducible first | exact HB.out | apply below_alloc | apply pw_below_drewN | apply below_drew1) | exact HB.out)) hb); clear HB; have HB := n0_; clear n0_; (try clear hb); (try clear hb2); (try clear hk); (try clear hi)) | ((with_reducible refine gate_callee (f := 20) rfl ?_); refine goesL_ (some 15) rfl rfl Tryd.func20 (by kernel_rfl) rfl #[.int .u32 a0] rfl (by (try simp only [List.map_toArray, List.map_cons, List.map_nil]); first | done | rfl | (simp only [List.length_drop, List.length_take]; rfl)) ?_; (with_reducible refine (virgateref01_Print.calls k a0 t3104 _ A4.out).mono ?_); rintro e w18 ⟨rfl, hb⟩; refine ⟨_, rfl, ?_⟩; have n0_ := Aside0.mk (below_step (by repeat (first | (with_reducible first | exact HB.out | apply below_alloc | apply pw_below_drewN | apply below_drew1) | exact HB.out)) hb); clear HB; have HB := n0_; clear n0_; (try clear hb); (try clear hb2); (try clear hk); (try clear hi)))
      go_ret
      exact ⟨by first | rfl | (simp [errW_none, errW_some] <;> rfl) | (simp [*, errW_none, errW_some] <;> rfl), by repeat (first | (with_reducible first | exact HB.out | apply below_alloc | apply pw_below_drewN | apply below_drew1) | exact HB.out)⟩
  · rw [if_neg c5] at H
    have c5b0 : (t3101.toList == t3104.toList) = false := beq_eq_false_iff_ne.mpr c5
    have c5b1 : (t3101.toList != t3104.toList) = true := bne_iff_ne.mpr c5
    obtain rfl := Option.some.inj H
    go_enter Tryd.func3, Tryd.ntmps3
    go_wp2_with (first | ((with_reducible refine gate_callee (f := 18) rfl ?_); refine goesL_ (some 7) rfl rfl Tryd.func18 (by kernel_rfl) rfl #[.int .u32 a0] rfl (by (try simp only [List.map_toArray, List.map_cons, List.map_nil]); first | done | rfl | (simp only [List.length_drop, List.length_take]; rfl)) ?_; (with_reducible refine (ip_Print.calls a0 t3101 _ A2.out).mono ?_); rintro e w19 ⟨rfl, hb⟩; refine ⟨_, rfl, ?_⟩; have n0_ := Aside0.mk (below_step (by repeat (first | (with_reducible first | exact HB.out | apply below_alloc | apply pw_below_drewN | apply below_drew1) | exact HB.out)) hb); clear HB; have HB := n0_; clear n0_; (try clear hb); (try clear hb2); (try clear hk); (try clear hi)) | ((with_reducible refine gate_callee (f := 19) rfl ?_); refine goesL_ (some 10) rfl rfl Tryd.func19 (by kernel_rfl) rfl #[.string t3101] rfl (by (try simp only [List.map_toArray, List.map_cons, List.map_nil]); first | done | rfl | (simp only [List.length_drop, List.length_take]; rfl)) ?_; (with_reducible refine (ip_Parse.calls t3101 t3102 t3103 _ A3.out).mono ?_); rintro e w20 ⟨rfl, hb⟩; refine ⟨_, rfl, ?_⟩; have n0_ := Aside0.mk (below_step (by repeat (first | (with_reducible first | exact HB.out | apply below_alloc | apply pw_below_drewN | apply below_drew1) | exact HB.out)) hb); clear HB; have HB := n0_; clear n0_; (try clear hb); (try clear hb2); (try clear hk); (try clear hi)) | ((with_reducible refine gate_callee (f := 20) rfl ?_); refine goesL_ (some 15) rfl rfl Tryd.func20 (by kernel_rfl) rfl #[.int .u32 a0] rfl (by (try simp only [List.map_toArray, List.map_cons, List.map_nil]); first | done | rfl | (simp only [List.length_drop, List.length_take]; rfl)) ?_; (with_reducible refine (virgateref01_Print.calls k a0 t3104 _ A4.out).mono ?_); rintro e w21 ⟨rfl, hb⟩; refine ⟨_, rfl, ?_⟩; have n0_ := Aside0.mk (below_step (by repeat (first | (with_reducible first | exact HB.out | apply below_alloc | apply pw_below_drewN | apply below_drew1) | exact HB.out)) hb); clear HB; have HB := n0_; clear n0_; (try clear hb); (try clear hb2); (try clear hk); (try clear hi)))
    go_ret
    exact ⟨by first | rfl | (simp [errW_none, errW_some] <;> rfl) | (simp [*, errW_none, errW_some] <;> rfl), by repeat (first | (with_reducible first | exact HB.out | apply below_alloc | apply pw_below_drewN | apply below_drew1) | exact HB.out)⟩

end Go.Proofs.YtcdopgkkieenjaaDoor.V
end

-- VFVirgatelaw01Ipparse
section
-- PRINTED by print.py (a twelfth state) out of the translation. Not trusted: Lean checks it.
namespace Go.Proofs.YtcdopgkkieenjaaDoor.V
open Go.RowKit Go.Proofs.YtcdopgkkieenjaaDoorW.PrintWords Go.Proofs.YtcdopgkkieenjaaDoorW.PrintLast Go.Proofs.YtcdopgkkieenjaaDoorW.PrintMore
attribute [local go_sem] max2_int min2_int max_two min_two max_three min_three max_four min_four   -- for this text's walks alone
set_option linter.unusedVariables false
set_option linter.unusedSimpArgs false

/-! ### virgatelaw01_IpParse: function 4 -/
def virgatelaw01_IpParse.f (k : Nat) (a0 : ByteArray) : Option (Bool) := if (a0.size : Int) > 40 then (if 0 ≤ 40 then (if 40 ≤ (a0.size : Int) then ((ip_Parse.f (a0.extract 0 40)).bind fun bt4101 => ((virgateref01_Parse.f k (a0.extract 0 40)).bind fun bt4103 => (if ((bt4101.2 == 0) == bt4103.2) = true then (if bt4103.2 = true then (if bt4101.1 = bt4103.1 then ((virgatelaw01_awake.f).bind fun t4105 => (some t4105)) else (some false)) else (if bt4101.2 = 3 then (if bt4101.1 = bt4103.1 then ((virgatelaw01_awake.f).bind fun t4106 => (some t4106)) else (some false)) else (some false))) else (some false)))) else (none)) else (none)) else ((ip_Parse.f a0).bind fun bt4107 => ((virgateref01_Parse.f k a0).bind fun bt4109 => (if ((bt4107.2 == 0) == bt4109.2) = true then (if bt4109.2 = true then (if bt4107.1 = bt4109.1 then ((virgatelaw01_awake.f).bind fun t4111 => (some t4111)) else (some false)) else (if bt4107.2 = 3 then (if bt4107.1 = bt4109.1 then ((virgatelaw01_awake.f).bind fun t4112 => (some t4112)) else (some false)) else (some false))) else (some false))))
theorem virgatelaw01_IpParse.mono : ∀ a0 k, LeO (virgatelaw01_IpParse.f k a0) (virgatelaw01_IpParse.f (k + 1) a0) := by
  intro a0 k
  unfold virgatelaw01_IpParse.f
  repeat' first
      | (with_reducible exact virgateref01_Parse.mono _ _)
      | (with_reducible exact LeO.refl _)
      | (with_reducible exact LeO.none _)
      | (with_reducible refine LeO.ite ?_ ?_)
      | (with_reducible refine LeO.bind ?_ (fun _ => ?_))
      | exact virgateref01_Parse.mono _ _
      | exact LeO.none _
      | refine LeO.ite ?_ ?_
      | refine LeO.bind ?_ (fun _ => ?_)
set_option maxHeartbeats 8000000 in
set_option maxRecDepth 100000 in
theorem virgatelaw01_IpParse.calls (k : Nat) (a0 : ByteArray) (r : Bool) (w : World) (h : virgatelaw01_IpParse.f k a0 = some r) :
    Calls Tryd.prog 4 #[.string a0] w fun e w' => e = .returned (.bool r) ∧ Below w.heap.size w w' := by
  have HB := Aside0.mk (Below.refl w.heap.size w)
  have H : (if (a0.size : Int) > 40 then (if 0 ≤ 40 then (if 40 ≤ (a0.size : Int) then ((ip_Parse.f (a0.extract 0 40)).bind fun bt4101 => ((virgateref01_Parse.f k (a0.extract 0 40)).bind fun bt4103 => (if ((bt4101.2 == 0) == bt4103.2) = true then (if bt4103.2 = true then (if bt4101.1 = bt4103.1 then ((virgatelaw01_awake.f).bind fun t4105 => (some t4105)) else (some false)) else (if bt4101.2 = 3 then (if bt4101.1 = bt4103.1 then ((virgatelaw01_awake.f).bind fun t4106 => (some t4106)) else (some false)) else (some false))) else (some false)))) else (none)) else (none)) else ((ip_Parse.f a0).bind fun bt4107 => ((virgateref01_Parse.f k a0).bind fun bt4109 => (if ((bt4107.2 == 0) == bt4109.2) = true then (if bt4109.2 = true then (if bt4107.1 = bt4109.1 then ((virgatelaw01_awake.f).bind fun t4111 => (some t4111)) else (some false)) else (if bt4107.2 = 3 then (if bt4107.1 = bt4109.1 then ((virgatelaw01_awake.f).bind fun t4112 => (some t4112)) else (some false)) else (some false))) else (some false))))) = some r := h
  clear h
  by_cases c2 : (a0.size : Int) > 40
  · rw [if_pos c2] at H
    have c2b0 : decide (40 < (a0.size : Int)) = true := decide_eq_true c2
    have c2b1 : decide (40 < a0.size) = true := decide_eq_true (by omega)
    clear c2
    by_cases c3 : 0 ≤ 40
    · rw [if_pos c3] at H
      have c3b0 := eq_true c3
      have c3b1 : decide (0 ≤ 40) = true := decide_eq_true c3
      clear c3
      by_cases c4 : 40 ≤ (a0.size : Int)
      · rw [if_pos c4] at H
        have c4b0 := eq_true c4
        have c4b1 : decide (40 ≤ (a0.size : Int)) = true := decide_eq_true c4
        clear c4
        replace H := Option.bind_eq_some_iff.mp H
        obtain ⟨⟨t4101, t4102⟩, A50, H⟩ := H
        replace H : ((virgateref01_Parse.f k (a0.extract 0 40)).bind fun bt4103 => (if ((t4102 == 0) == bt4103.2) = true then (if bt4103.2 = true then (if t4101 = bt4103.1 then ((virgatelaw01_awake.f).bind fun t4105 => (some t4105)) else (some false)) else (if t4102 = 3 then (if t4101 = bt4103.1 then ((virgatelaw01_awake.f).bind fun t4106 => (some t4106)) else (some false)) else (some false))) else (some false))) = some r := H
        have A5 := Aside0.mk A50
        clear A50
        replace H := Option.bind_eq_some_iff.mp H
        obtain ⟨⟨t4103, t4104⟩, A60, H⟩ := H
        replace H : (if ((t4102 == 0) == t4104) = true then (if t4104 = true then (if t4101 = t4103 then ((virgatelaw01_awake.f).bind fun t4105 => (some t4105)) else (some false)) else (if t4102 = 3 then (if t4101 = t4103 then ((virgatelaw01_awake.f).bind fun t4106 => (some t4106)) else (some false)) else (some false))) else (some false)) = some r := H
        have A6 := Aside0.mk A60
        clear A60
        by_cases c7 : ((t4102 == 0) == t4104) = true
        · rw [if_pos c7] at H
          have c7b0 : ((t4102 == 0) == t4104) = true := c7
          (try (have c7b1 : decide ((t4102 == 0) = t4104) = true := by simpa using c7))
          (try (have c7b2 : ((t4102 == 0) == t4104) = true := by simpa using c7))
          clear c7
          by_cases c8 : t4104 = true
          · subst c8
            have H1 : (if t4101 = t4103 then ((virgatelaw01_awake.f).bind fun t4105 => (some t4105)) else (some false)) = some r := by rw [if_pos rfl] at H; exact H
            clear H
            have H := H1
            clear H1
            by_cases c9 : t4101 = t4103
            · rw [if_pos c9] at H
              have c9b0 : (t4101 == t4103) = true := beq_iff_eq.mpr c9
              have c9b1 : (t4101 != t4103) = false := bne_eq_false_iff_eq.mpr c9
              clear c9
              replace H := Option.bind_eq_some_iff.mp H
              obtain ⟨t4105, A100, H⟩ := H
              replace H : (some t4105) = some r := H
              have A10 := Aside0.mk A100
              clear A100
              obtain rfl := Option.some.inj H
              go_enter Tryd.func4, Tryd.ntmps4
              go_wp2_with (first | ((with_reducible refine gate_callee (f := 19) rfl ?_); refine goesL_ (some 14) rfl rfl Tryd.func19 (by kernel_rfl) rfl #[.string (a0.extract 0 40)] rfl (by (try simp only [List.map_toArray, List.map_cons, List.map_nil]); first | done | rfl | (simp only [List.length_drop, List.length_take]; rfl)) ?_; (with_reducible refine (ip_Parse.calls (a0.extract 0 40) t4101 t4102 _ A5.out).mono ?_); rintro e w11 ⟨rfl, hb⟩; refine ⟨_, rfl, ?_⟩; have n0_ := Aside0.mk (below_step (by repeat (first | (with_reducible first | exact HB.out | apply below_alloc | apply pw_below_drewN | apply below_drew1) | exact HB.out)) hb); clear HB; have HB := n0_; clear n0_; (try clear hb); (try clear hb2); (try clear hk); (try clear hi)) | ((with_reducible refine gate_callee (f := 22) rfl ?_); refine goesL_ (some 19) rfl rfl Tryd.func22 (by kernel_rfl) rfl #[.string (a0.extract 0 40)] rfl (by (try simp only [List.map_toArray, List.map_cons, List.map_nil]); first | done | rfl | (simp only [List.length_drop, List.length_take]; rfl)) ?_; (with_reducible refine (virgateref01_Parse.calls k (a0.extract 0 40) t4103 true _ A6.out).mono ?_); rintro e w12 ⟨rfl, hb⟩; refine ⟨_, rfl, ?_⟩; have n0_ := Aside0.mk (below_step (by repeat (first | (with_reducible first | exact HB.out | apply below_alloc | apply pw_below_drewN | apply below_drew1) | exact HB.out)) hb); clear HB; have HB := n0_; clear n0_; (try clear hb); (try clear hb2); (try clear hk); (try clear hi)) | (go_at_call 21; (with_reducible refine (virgatelaw01_awake.calls  t4105 _ A10.out).mono ?_); rintro e w13 ⟨rfl, hb⟩; have n0_ := Aside0.mk (below_step (by repeat (first | (with_reducible first | exact HB.out | apply below_alloc | apply pw_below_drewN | apply below_drew1) | exact HB.out)) hb); clear HB; have HB := n0_; clear n0_; (try clear hb); (try clear hb2); (try clear hk); (try clear hi)))
              go_ret
              exact ⟨by first | rfl | (simp [errW_none, errW_some] <;> rfl) | (simp [*, errW_none, errW_some] <;> rfl), by repeat (first | (with_reducible first | exact HB.out | apply below_alloc | apply pw_below_drewN | apply below_drew1) | exact HB.out)⟩
            · rw [if_neg c9] at H
              have c9b0 : (t4101 == t4103) = false := beq_eq_false_iff_ne.mpr c9
              have c9b1 : (t4101 != t4103) = true := bne_iff_ne.mpr c9
              obtain rfl := Option.some.inj H
              go_enter Tryd.func4, Tryd.ntmps4
              go_wp2_with (first | ((with_reducible refine gate_callee (f := 19) rfl ?_); refine goesL_ (some 14) rfl rfl Tryd.func19 (by kernel_rfl) rfl #[.string (a0.extract 0 40)] rfl (by (try simp only [List.map_toArray, List.map_cons, List.map_nil]); first | done | rfl | (simp only [List.length_drop, List.length_take]; rfl)) ?_; (with_reducible refine (ip_Parse.calls (a0.extract 0 40) t4101 t4102 _ A5.out).mono ?_); rintro e w14 ⟨rfl, hb⟩; refine ⟨_, rfl, ?_⟩; have n0_ := Aside0.mk (below_step (by repeat (first | (with_reducible first | exact HB.out | apply below_alloc | apply pw_below_drewN | apply below_drew1) | exact HB.out)) hb); clear HB; have HB := n0_; clear n0_; (try clear hb); (try clear hb2); (try clear hk); (try clear hi)) | ((with_reducible refine gate_callee (f := 22) rfl ?_); refine goesL_ (some 19) rfl rfl Tryd.func22 (by kernel_rfl) rfl #[.string (a0.extract 0 40)] rfl (by (try simp only [List.map_toArray, List.map_cons, List.map_nil]); first | done | rfl | (simp only [List.length_drop, List.length_take]; rfl)) ?_; (with_reducible refine (virgateref01_Parse.calls k (a0.extract 0 40) t4103 true _ A6.out).mono ?_); rintro e w15 ⟨rfl, hb⟩; refine ⟨_, rfl, ?_⟩; have n0_ := Aside0.mk (below_step (by repeat (first | (with_reducible first | exact HB.out | apply below_alloc | apply pw_below_drewN | apply below_drew1) | exact HB.out)) hb); clear HB; have HB := n0_; clear n0_; (try clear hb); (try clear hb2); (try clear hk); (try clear hi)))
              go_ret
              exact ⟨by first | rfl | (simp [errW_none, errW_some] <;> rfl) | (simp [*, errW_none, errW_some] <;> rfl), by repeat (first | (with_reducible first | exact HB.out | apply below_alloc | apply pw_below_drewN | apply below_drew1) | exact HB.out)⟩
          · replace c8 := Bool.eq_false_iff.mpr c8
            subst c8
            have H1 : (if t4102 = 3 then (if t4101 = t4103 then ((virgatelaw01_awake.f).bind fun t4106 => (some t4106)) else (some false)) else (some false)) = some r := by rw [if_neg (show ¬ (false = true) by decide)] at H; exact H
            clear H
            have H := H1
            clear H1
            by_cases c16 : t4102 = 3
            · rw [if_pos c16] at H
              have c16b0 : (t4102 == 3) = true := beq_iff_eq.mpr c16
              have c16b1 : (t4102 != 3) = false := bne_eq_false_iff_eq.mpr c16
              clear c16
              by_cases c17 : t4101 = t4103
              · rw [if_pos c17] at H
                have c17b0 : (t4101 == t4103) = true := beq_iff_eq.mpr c17
                have c17b1 : (t4101 != t4103) = false := bne_eq_false_iff_eq.mpr c17
                clear c17
                replace H := Option.bind_eq_some_iff.mp H
                obtain ⟨t4106, A180, H⟩ := H
                replace H : (some t4106) = some r := H
                have A18 := Aside0.mk A180
                clear A180
                obtain rfl := Option.some.inj H
                go_enter Tryd.func4, Tryd.ntmps4
                go_wp2_with (first | ((with_reducible refine gate_callee (f := 19) rfl ?_); refine goesL_ (some 14) rfl rfl Tryd.func19 (by kernel_rfl) rfl #[.string (a0.extract 0 40)] rfl (by (try simp only [List.map_toArray, List.map_cons, List.map_nil]); first | done | rfl | (simp only [List.length_drop, List.length_take]; rfl)) ?_; (with_reducible refine (ip_Parse.calls (a0.extract 0 40) t4101 t4102 _ A5.out).mono ?_); rintro e w19 ⟨rfl, hb⟩; refine ⟨_, rfl, ?_⟩; have n0_ := Aside0.mk (below_step (by repeat (first | (with_reducible first | exact HB.out | apply below_alloc | apply pw_below_drewN | apply below_drew1) | exact HB.out)) hb); clear HB; have HB := n0_; clear n0_; (try clear hb); (try clear hb2); (try clear hk); (try clear hi)) | ((with_reducible refine gate_callee (f := 22) rfl ?_); refine goesL_ (some 19) rfl rfl Tryd.func22 (by kernel_rfl) rfl #[.string (a0.extract 0 40)] rfl (by (try simp only [List.map_toArray, List.map_cons, List.map_nil]); first | done | rfl | (simp only [List.length_drop, List.length_take]; rfl)) ?_; (with_reducible refine (virgateref01_Parse.calls k (a0.extract 0 40) t4103 false _ A6.out).mono ?_); rintro e w20 ⟨rfl, hb⟩; refine ⟨_, rfl, ?_⟩; have n0_ := Aside0.mk (below_step (by repeat (first | (with_reducible first | exact HB.out | apply below_alloc | apply pw_below_drewN | apply below_drew1) | exact HB.out)) hb); clear HB; have HB := n0_; clear n0_; (try clear hb); (try clear hb2); (try clear hk); (try clear hi)) | (go_at_call 21; (with_reducible refine (virgatelaw01_awake.calls  t4106 _ A18.out).mono ?_); rintro e w21 ⟨rfl, hb⟩; have n0_ := Aside0.mk (below_step (by repeat (first | (with_reducible first | exact HB.out | apply below_alloc | apply pw_below_drewN | apply below_drew1) | exact HB.out)) hb); clear HB; have HB := n0_; clear n0_; (try clear hb); (try clear hb2); (try clear hk); (try clear hi)))
                go_ret
                exact ⟨by first | rfl | (simp [errW_none, errW_some] <;> rfl) | (simp [*, errW_none, errW_some] <;> rfl), by repeat (first | (with_reducible first | exact HB.out | apply below_alloc | apply pw_below_drewN | apply below_drew1) | exact HB.out)⟩
              · rw [if_neg c17] at H
                have c17b0 : (t4101 == t4103) = false := beq_eq_false_iff_ne.mpr c17
                have c17b1 : (t4101 != t4103) = true := bne_iff_ne.mpr c17
                obtain rfl := Option.some.inj H
                go_enter Tryd.func4, Tryd.ntmps4
                go_wp2_with (first | ((with_reducible refine gate_callee (f := 19) rfl ?_); refine goesL_ (some 14) rfl rfl Tryd.func19 (by kernel_rfl) rfl #[.string (a0.extract 0 40)] rfl (by (try simp only [List.map_toArray, List.map_cons, List.map_nil]); first | done | rfl | (simp only [List.length_drop, List.length_take]; rfl)) ?_; (with_reducible refine (ip_Parse.calls (a0.extract 0 40) t4101 t4102 _ A5.out).mono ?_); rintro e w22 ⟨rfl, hb⟩; refine ⟨_, rfl, ?_⟩; have n0_ := Aside0.mk (below_step (by repeat (first | (with_reducible first | exact HB.out | apply below_alloc | apply pw_below_drewN | apply below_drew1) | exact HB.out)) hb); clear HB; have HB := n0_; clear n0_; (try clear hb); (try clear hb2); (try clear hk); (try clear hi)) | ((with_reducible refine gate_callee (f := 22) rfl ?_); refine goesL_ (some 19) rfl rfl Tryd.func22 (by kernel_rfl) rfl #[.string (a0.extract 0 40)] rfl (by (try simp only [List.map_toArray, List.map_cons, List.map_nil]); first | done | rfl | (simp only [List.length_drop, List.length_take]; rfl)) ?_; (with_reducible refine (virgateref01_Parse.calls k (a0.extract 0 40) t4103 false _ A6.out).mono ?_); rintro e w23 ⟨rfl, hb⟩; refine ⟨_, rfl, ?_⟩; have n0_ := Aside0.mk (below_step (by repeat (first | (with_reducible first | exact HB.out | apply below_alloc | apply pw_below_drewN | apply below_drew1) | exact HB.out)) hb); clear HB; have HB := n0_; clear n0_; (try clear hb); (try clear hb2); (try clear hk); (try clear hi)))
                go_ret
                exact ⟨by first | rfl | (simp [errW_none, errW_some] <;> rfl) | (simp [*, errW_none, errW_some] <;> rfl), by repeat (first | (with_reducible first | exact HB.out | apply below_alloc | apply pw_below_drewN | apply below_drew1) | exact HB.out)⟩
            · rw [if_neg c16] at H
              have c16b0 : (t4102 == 3) = false := beq_eq_false_iff_ne.mpr c16
              have c16b1 : (t4102 != 3) = true := bne_iff_ne.mpr c16
              obtain rfl := Option.some.inj H
              go_enter Tryd.func4, Tryd.ntmps4
              go_wp2_with (first | ((with_reducible refine gate_callee (f := 19) rfl ?_); refine goesL_ (some 14) rfl rfl Tryd.func19 (by kernel_rfl) rfl #[.string (a0.extract 0 40)] rfl (by (try simp only [List.map_toArray, List.map_cons, List.map_nil]); first | done | rfl | (simp only [List.length_drop, List.length_take]; rfl)) ?_; (with_reducible refine (ip_Parse.calls (a0.extract 0 40) t4101 t4102 _ A5.out).mono ?_); rintro e w24 ⟨rfl, hb⟩; refine ⟨_, rfl, ?_⟩; have n0_ := Aside0.mk (below_step (by repeat (first | (with_reducible first | exact HB.out | apply below_alloc | apply pw_below_drewN | apply below_drew1) | exact HB.out)) hb); clear HB; have HB := n0_; clear n0_; (try clear hb); (try clear hb2); (try clear hk); (try clear hi)) | ((with_reducible refine gate_callee (f := 22) rfl ?_); refine goesL_ (some 19) rfl rfl Tryd.func22 (by kernel_rfl) rfl #[.string (a0.extract 0 40)] rfl (by (try simp only [List.map_toArray, List.map_cons, List.map_nil]); first | done | rfl | (simp only [List.length_drop, List.length_take]; rfl)) ?_; (with_reducible refine (virgateref01_Parse.calls k (a0.extract 0 40) t4103 false _ A6.out).mono ?_); rintro e w25 ⟨rfl, hb⟩; refine ⟨_, rfl, ?_⟩; have n0_ := Aside0.mk (below_step (by repeat (first | (with_reducible first | exact HB.out | apply below_alloc | apply pw_below_drewN | apply below_drew1) | exact HB.out)) hb); clear HB; have HB := n0_; clear n0_; (try clear hb); (try clear hb2); (try clear hk); (try clear hi)))
              go_ret
              exact ⟨by first | rfl | (simp [errW_none, errW_some] <;> rfl) | (simp [*, errW_none, errW_some] <;> rfl), by repeat (first | (with_reducible first | exact HB.out | apply below_alloc | apply pw_below_drewN | apply below_drew1) | exact HB.out)⟩
        · rw [if_neg c7] at H
          have c7b0 : ((t4102 == 0) == t4104) = false := by simpa using c7
          (try (have c7b1 : decide ((t4102 == 0) = t4104) = false := by simpa using c7))
          (try (have c7b2 : ((t4102 == 0) == t4104) = false := by simpa using c7))
          (try (have c7b3 : ¬ ((t4102 == 0) = t4104) := by simpa using c7))
          clear c7
          obtain rfl := Option.some.inj H
          go_enter Tryd.func4, Tryd.ntmps4
          go_wp2_with (first | ((with_reducible refine gate_callee (f := 19) rfl ?_); refine goesL_ (some 14) rfl rfl Tryd.func19 (by kernel_rfl) rfl #[.string (a0.extract 0 40)] rfl (by (try simp only [List.map_toArray, List.map_cons, List.map_nil]); first | done | rfl | (simp only [List.length_drop, List.length_take]; rfl)) ?_; (with_reducible refine (ip_Parse.calls (a0.extract 0 40) t4101 t4102 _ A5.out).mono ?_); rintro e w26 ⟨rfl, hb⟩; refine ⟨_, rfl, ?_⟩; have n0_ := Aside0.mk (below_step (by repeat (first | (with_reducible first | exact HB.out | apply below_alloc | apply pw_below_drewN | apply below_drew1) | exact HB.out)) hb); clear HB; have HB := n0_; clear n0_; (try clear hb); (try clear hb2); (try clear hk); (try clear hi)) | ((with_reducible refine gate_callee (f := 22) rfl ?_); refine goesL_ (some 19) rfl rfl Tryd.func22 (by kernel_rfl) rfl #[.string (a0.extract 0 40)] rfl (by (try simp only [List.map_toArray, List.map_cons, List.map_nil]); first | done | rfl | (simp only [List.length_drop, List.length_take]; rfl)) ?_; (with_reducible refine (virgateref01_Parse.calls k (a0.extract 0 40) t4103 t4104 _ A6.out).mono ?_); rintro e w27 ⟨rfl, hb⟩; refine ⟨_, rfl, ?_⟩; have n0_ := Aside0.mk (below_step (by repeat (first | (with_reducible first | exact HB.out | apply below_alloc | apply pw_below_drewN | apply below_drew1) | exact HB.out)) hb); clear HB; have HB := n0_; clear n0_; (try clear hb); (try clear hb2); (try clear hk); (try clear hi)))
          go_ret
          exact ⟨by first | rfl | (simp [errW_none, errW_some] <;> rfl) | (simp [*, errW_none, errW_some] <;> rfl), by repeat (first | (with_reducible first | exact HB.out | apply below_alloc | apply pw_below_drewN | apply below_drew1) | exact HB.out)⟩
      · rw [if_neg c4] at H
        exact absurd H (by simp)
    · rw [if_neg c3] at H
      exact absurd H (by simp)
  · rw [if_neg c2] at H
    have c2b0 : decide (40 < (a0.size : Int)) = false := decide_eq_false c2
    have c2b1 : decide (40 < a0.size) = false := decide_eq_false (by omega)
    clear c2
    replace H := Option.bind_eq_some_iff.mp H
    obtain ⟨⟨t4107, t4108⟩, A280, H⟩ := H
    replace H : ((virgateref01_Parse.f k a0).bind fun bt4109 => (if ((t4108 == 0) == bt4109.2) = true then (if bt4109.2 = true then (if t4107 = bt4109.1 then ((virgatelaw01_awake.f).bind fun t4111 => (some t4111)) else (some false)) else (if t4108 = 3 then (if t4107 = bt4109.1 then ((virgatelaw01_awake.f).bind fun t4112 => (some t4112)) else (some false)) else (some false))) else (some false))) = some r := H
    have A28 := Aside0.mk A280
    clear A280
    replace H := Option.bind_eq_some_iff.mp H
    obtain ⟨⟨t4109, t4110⟩, A290, H⟩ := H
    replace H : (if ((t4108 == 0) == t4110) = true then (if t4110 = true then (if t4107 = t4109 then ((virgatelaw01_awake.f).bind fun t4111 => (some t4111)) else (some false)) else (if t4108 = 3 then (if t4107 = t4109 then ((virgatelaw01_awake.f).bind fun t4112 => (some t4112)) else (some false)) else (some false))) else (some false)) = some r := H
    have A29 := Aside0.mk A290
    clear A290
    by_cases c30 : ((t4108 == 0) == t4110) = true
    · rw [if_pos c30] at H
      have c30b0 : ((t4108 == 0) == t4110) = true := c30
      (try (have c30b1 : decide ((t4108 == 0) = t4110) = true := by simpa using c30))
      (try (have c30b2 : ((t4108 == 0) == t4110) = true := by simpa using c30))
      clear c30
      by_cases c31 : t4110 = true
      · subst c31
        have H1 : (if t4107 = t4109 then ((virgatelaw01_awake.f).bind fun t4111 => (some t4111)) else (some false)) = some r := by rw [if_pos rfl] at H; exact H
        clear H
        have H := H1
        clear H1
        by_cases c32 : t4107 = t4109
        · rw [if_pos c32] at H
          have c32b0 : (t4107 == t4109) = true := beq_iff_eq.mpr c32
          have c32b1 : (t4107 != t4109) = false := bne_eq_false_iff_eq.mpr c32
          clear c32
          replace H := Option.bind_eq_some_iff.mp H
          obtain ⟨t4111, A330, H⟩ := H
          replace H : (some t4111) = some r := H
          have A33 := Aside0.mk A330
          clear A330
          obtain rfl := Option.some.inj H
          go_enter Tryd.func4, Tryd.ntmps4
          go_wp2_with (first | ((with_reducible refine gate_callee (f := 19) rfl ?_); refine goesL_ (some 14) rfl rfl Tryd.func19 (by kernel_rfl) rfl #[.string a0] rfl (by (try simp only [List.map_toArray, List.map_cons, List.map_nil]); first | done | rfl | (simp only [List.length_drop, List.length_take]; rfl)) ?_; (with_reducible refine (ip_Parse.calls a0 t4107 t4108 _ A28.out).mono ?_); rintro e w34 ⟨rfl, hb⟩; refine ⟨_, rfl, ?_⟩; have n0_ := Aside0.mk (below_step (by repeat (first | (with_reducible first | exact HB.out | apply below_alloc | apply pw_below_drewN | apply below_drew1) | exact HB.out)) hb); clear HB; have HB := n0_; clear n0_; (try clear hb); (try clear hb2); (try clear hk); (try clear hi)) | ((with_reducible refine gate_callee (f := 22) rfl ?_); refine goesL_ (some 19) rfl rfl Tryd.func22 (by kernel_rfl) rfl #[.string a0] rfl (by (try simp only [List.map_toArray, List.map_cons, List.map_nil]); first | done | rfl | (simp only [List.length_drop, List.length_take]; rfl)) ?_; (with_reducible refine (virgateref01_Parse.calls k a0 t4109 true _ A29.out).mono ?_); rintro e w35 ⟨rfl, hb⟩; refine ⟨_, rfl, ?_⟩; have n0_ := Aside0.mk (below_step (by repeat (first | (with_reducible first | exact HB.out | apply below_alloc | apply pw_below_drewN | apply below_drew1) | exact HB.out)) hb); clear HB; have HB := n0_; clear n0_; (try clear hb); (try clear hb2); (try clear hk); (try clear hi)) | (go_at_call 21; (with_reducible refine (virgatelaw01_awake.calls  t4111 _ A33.out).mono ?_); rintro e w36 ⟨rfl, hb⟩; have n0_ := Aside0.mk (below_step (by repeat (first | (with_reducible first | exact HB.out | apply below_alloc | apply pw_below_drewN | apply below_drew1) | exact HB.out)) hb); clear HB; have HB := n0_; clear n0_; (try clear hb); (try clear hb2); (try clear hk); (try clear hi)))
          go_ret
          exact ⟨by first | rfl | (simp [errW_none, errW_some] <;> rfl) | (simp [*, errW_none, errW_some] <;> rfl), by repeat (first | (with_reducible first | exact HB.out | apply below_alloc | apply pw_below_drewN | apply below_drew1) | exact HB.out)⟩
        · rw [if_neg c32] at H
          have c32b0 : (t4107 == t4109) = false := beq_eq_false_iff_ne.mpr c32
          have c32b1 : (t4107 != t4109) = true := bne_iff_ne.mpr c32
          obtain rfl := Option.some.inj H
          go_enter Tryd.func4, Tryd.ntmps4
          go_wp2_with (first | ((with_reducible refine gate_callee (f := 19) rfl ?_); refine goesL_ (some 14) rfl rfl Tryd.func19 (by kernel_rfl) rfl #[.string a0] rfl (by (try simp only [List.map_toArray, List.map_cons, List.map_nil]); first | done | rfl | (simp only [List.length_drop, List.length_take]; rfl)) ?_; (with_reducible refine (ip_Parse.calls a0 t4107 t4108 _ A28.out).mono ?_); rintro e w37 ⟨rfl, hb⟩; refine ⟨_, rfl, ?_⟩; have n0_ := Aside0.mk (below_step (by repeat (first | (with_reducible first | exact HB.out | apply below_alloc | apply pw_below_drewN | apply below_drew1) | exact HB.out)) hb); clear HB; have HB := n0_; clear n0_; (try clear hb); (try clear hb2); (try clear hk); (try clear hi)) | ((with_reducible refine gate_callee (f := 22) rfl ?_); refine goesL_ (some 19) rfl rfl Tryd.func22 (by kernel_rfl) rfl #[.string a0] rfl (by (try simp only [List.map_toArray, List.map_cons, List.map_nil]); first | done | rfl | (simp only [List.length_drop, List.length_take]; rfl)) ?_; (with_reducible refine (virgateref01_Parse.calls k a0 t4109 true _ A29.out).mono ?_); rintro e w38 ⟨rfl, hb⟩; refine ⟨_, rfl, ?_⟩; have n0_ := Aside0.mk (below_step (by repeat (first | (with_reducible first | exact HB.out | apply below_alloc | apply pw_below_drewN | apply below_drew1) | exact HB.out)) hb); clear HB; have HB := n0_; clear n0_; (try clear hb); (try clear hb2); (try clear hk); (try clear hi)))
          go_ret
          exact ⟨by first | rfl | (simp [errW_none, errW_some] <;> rfl) | (simp [*, errW_none, errW_some] <;> rfl), by repeat (first | (with_reducible first | exact HB.out | apply below_alloc | apply pw_below_drewN | apply below_drew1) | exact HB.out)⟩
      · replace c31 := Bool.eq_false_iff.mpr c31
        subst c31
        have H1 : (if t4108 = 3 then (if t4107 = t4109 then ((virgatelaw01_awake.f).bind fun t4112 => (some t4112)) else (some false)) else (some false)) = some r := by rw [if_neg (show ¬ (false = true) by decide)] at H; exact H
        clear H
        have H := H1
        clear H1
        by_cases c39 : t4108 = 3
        · rw [if_pos c39] at H
          have c39b0 : (t4108 == 3) = true := beq_iff_eq.mpr c39
          have c39b1 : (t4108 != 3) = false := bne_eq_false_iff_eq.mpr c39
          clear c39
          by_cases c40 : t4107 = t4109
          · rw [if_pos c40] at H
            have c40b0 : (t4107 == t4109) = true := beq_iff_eq.mpr c40
            have c40b1 : (t4107 != t4109) = false := bne_eq_false_iff_eq.mpr c40
            clear c40
            replace H := Option.bind_eq_some_iff.mp H
            obtain ⟨t4112, A410, H⟩ := H
            replace H : (some t4112) = some r := H
            have A41 := Aside0.mk A410
            clear A410
            obtain rfl := Option.some.inj H
            go_enter Tryd.func4, Tryd.ntmps4
            go_wp2_with (first | ((with_reducible refine gate_callee (f := 19) rfl ?_); refine goesL_ (some 14) rfl rfl Tryd.func19 (by kernel_rfl) rfl #[.string a0] rfl (by (try simp only [List.map_toArray, List.map_cons, List.map_nil]); first | done | rfl | (simp only [List.length_drop, List.length_take]; rfl)) ?_; (with_reducible refine (ip_Parse.calls a0 t4107 t4108 _ A28.out).mono ?_); rintro e w42 ⟨rfl, hb⟩; refine ⟨_, rfl, ?_⟩; have n0_ := Aside0.mk (below_step (by repeat (first | (with_reducible first | exact HB.out | apply below_alloc | apply pw_below_drewN | apply below_drew1) | exact HB.out)) hb); clear HB; have HB := n0_; clear n0_; (try clear hb); (try clear hb2); (try clear hk); (try clear hi)) | ((with_reducible refine gate_callee (f := 22) rfl ?_); refine goesL_ (some 19) rfl rfl Tryd.func22 (by kernel_rfl) rfl #[.string a0] rfl (by (try simp only [List.map_toArray, List.map_cons, List.map_nil]); first | done | rfl | (simp only [List.length_drop, List.length_take]; rfl)) ?_; (with_reducible refine (virgateref01_Parse.calls k a0 t4109 false _ A29.out).mono ?_); rintro e w43 ⟨rfl, hb⟩; refine ⟨_, rfl, ?_⟩; have n0_ := Aside0.mk (below_step (by repeat (first | (with_reducible first | exact HB.out | apply below_alloc | apply pw_below_drewN | apply below_drew1) | exact HB.out)) hb); clear HB; have HB := n0_; clear n0_; (try clear hb); (try clear hb2); (try clear hk); (try clear hi)) | (go_at_call 21; (with_reducible refine (virgatelaw01_awake.calls  t4112 _ A41.out).mono ?_); rintro e w44 ⟨rfl, hb⟩; have n0_ := Aside0.mk (below_step (by repeat (first | (with_reducible first | exact HB.out | apply below_alloc | apply pw_below_drewN | apply below_drew1) | exact HB.out)) hb); clear HB; have HB := n0_; clear n0_; (try clear hb); (try clear hb2); (try clear hk); (try clear hi)))
            go_ret
            exact ⟨by first | rfl | (simp [errW_none, errW_some] <;> rfl) | (simp [*, errW_none, errW_some] <;> rfl), by repeat (first | (with_reducible first | exact HB.out | apply below_alloc | apply pw_below_drewN | apply below_drew1) | exact HB.out)⟩
          · rw [if_neg c40] at H
            have c40b0 : (t4107 == t4109) = false := beq_eq_false_iff_ne.mpr c40
            have c40b1 : (t4107 != t4109) = true := bne_iff_ne.mpr c40
            obtain rfl := Option.some.inj H
            go_enter Tryd.func4, Tryd.ntmps4
            go_wp2_with (first | ((with_reducible refine gate_callee (f := 19) rfl ?_); refine goesL_ (some 14) rfl rfl Tryd.func19 (by kernel_rfl) rfl #[.string a0] rfl (by (try simp only [List.map_toArray, List.map_cons, List.map_nil]); first | done | rfl | (simp only [List.length_drop, List.length_take]; rfl)) ?_; (with_reducible refine (ip_Parse.calls a0 t4107 t4108 _ A28.out).mono ?_); rintro e w45 ⟨rfl, hb⟩; refine ⟨_, rfl, ?_⟩; have n0_ := Aside0.mk (below_step (by repeat (first | (with_reducible first | exact HB.out | apply below_alloc | apply pw_below_drewN | apply below_drew1) | exact HB.out)) hb); clear HB; have HB := n0_; clear n0_; (try clear hb); (try clear hb2); (try clear hk); (try clear hi)) | ((with_reducible refine gate_callee (f := 22) rfl ?_); refine goesL_ (some 19) rfl rfl Tryd.func22 (by kernel_rfl) rfl #[.string a0] rfl (by (try simp only [List.map_toArray, List.map_cons, List.map_nil]); first | done | rfl | (simp only [List.length_drop, List.length_take]; rfl)) ?_; (with_reducible refine (virgateref01_Parse.calls k a0 t4109 false _ A29.out).mono ?_); rintro e w46 ⟨rfl, hb⟩; refine ⟨_, rfl, ?_⟩; have n0_ := Aside0.mk (below_step (by repeat (first | (with_reducible first | exact HB.out | apply below_alloc | apply pw_below_drewN | apply below_drew1) | exact HB.out)) hb); clear HB; have HB := n0_; clear n0_; (try clear hb); (try clear hb2); (try clear hk); (try clear hi)))
            go_ret
            exact ⟨by first | rfl | (simp [errW_none, errW_some] <;> rfl) | (simp [*, errW_none, errW_some] <;> rfl), by repeat (first | (with_reducible first | exact HB.out | apply below_alloc | apply pw_below_drewN | apply below_drew1) | exact HB.out)⟩
        · rw [if_neg c39] at H
          have c39b0 : (t4108 == 3) = false := beq_eq_false_iff_ne.mpr c39
          have c39b1 : (t4108 != 3) = true := bne_iff_ne.mpr c39
          obtain rfl := Option.some.inj H
          go_enter Tryd.func4, Tryd.ntmps4
          go_wp2_with (first | ((with_reducible refine gate_callee (f := 19) rfl ?_); refine goesL_ (some 14) rfl rfl Tryd.func19 (by kernel_rfl) rfl #[.string a0] rfl (by (try simp only [List.map_toArray, List.map_cons, List.map_nil]); first | done | rfl | (simp only [List.length_drop, List.length_take]; rfl)) ?_; (with_reducible refine (ip_Parse.calls a0 t4107 t4108 _ A28.out).mono ?_); rintro e w47 ⟨rfl, hb⟩; refine ⟨_, rfl, ?_⟩; have n0_ := Aside0.mk (below_step (by repeat (first | (with_reducible first | exact HB.out | apply below_alloc | apply pw_below_drewN | apply below_drew1) | exact HB.out)) hb); clear HB; have HB := n0_; clear n0_; (try clear hb); (try clear hb2); (try clear hk); (try clear hi)) | ((with_reducible refine gate_callee (f := 22) rfl ?_); refine goesL_ (some 19) rfl rfl Tryd.func22 (by kernel_rfl) rfl #[.string a0] rfl (by (try simp only [List.map_toArray, List.map_cons, List.map_nil]); first | done | rfl | (simp only [List.length_drop, List.length_take]; rfl)) ?_; (with_reducible refine (virgateref01_Parse.calls k a0 t4109 false _ A29.out).mono ?_); rintro e w48 ⟨rfl, hb⟩; refine ⟨_, rfl, ?_⟩; have n0_ := Aside0.mk (below_step (by repeat (first | (with_reducible first | exact HB.out | apply below_alloc | apply pw_below_drewN | apply below_drew1) | exact HB.out)) hb); clear HB; have HB := n0_; clear n0_; (try clear hb); (try clear hb2); (try clear hk); (try clear hi)))
          go_ret
          exact ⟨by first | rfl | (simp [errW_none, errW_some] <;> rfl) | (simp [*, errW_none, errW_some] <;> rfl), by repeat (first | (with_reducible first | exact HB.out | apply below_alloc | apply pw_below_drewN | apply below_drew1) | exact HB.out)⟩
    · rw [if_neg c30] at H
      have c30b0 : ((t4108 == 0) == t4110) = false := by simpa using c30
      (try (have c30b1 : decide ((t4108 == 0) = t4110) = false := by simpa using c30))
      (try (have c30b2 : ((t4108 == 0) == t4110) = false := by simpa using c30))
      (try (have c30b3 : ¬ ((t4108 == 0) = t4110) := by simpa using c30))
      clear c30
      obtain rfl := Option.some.inj H
      go_enter Tryd.func4, Tryd.ntmps4
      go_wp2_with (first | ((with_reducible refine gate_callee (f := 19) rfl ?_); refine goesL_ (some 14) rfl rfl Tryd.func19 (by kernel_rfl) rfl #[.string a0] rfl (by (try simp only [List.map_toArray, List.map_cons, List.map_nil]); first | done | rfl | (simp only [List.length_drop, List.length_take]; rfl)) ?_; (with_reducible refine (ip_Parse.calls a0 t4107 t4108 _ A28.out).mono ?_); rintro e w49 ⟨rfl, hb⟩; refine ⟨_, rfl, ?_⟩; have n0_ := Aside0.mk (below_step (by repeat (first | (with_reducible first | exact HB.out | apply below_alloc | apply pw_below_drewN | apply below_drew1) | exact HB.out)) hb); clear HB; have HB := n0_; clear n0_; (try clear hb); (try clear hb2); (try clear hk); (try clear hi)) | ((with_reducible refine gate_callee (f := 22) rfl ?_); refine goesL_ (some 19) rfl rfl Tryd.func22 (by kernel_rfl) rfl #[.string a0] rfl (by (try simp only [List.map_toArray, List.map_cons, List.map_nil]); first | done | rfl | (simp only [List.length_drop, List.length_take]; rfl)) ?_; (with_reducible refine (virgateref01_Parse.calls k a0 t4109 t4110 _ A29.out).mono ?_); rintro e w50 ⟨rfl, hb⟩; refine ⟨_, rfl, ?_⟩; have n0_ := Aside0.mk (below_step (by repeat (first | (with_reducible first | exact HB.out | apply below_alloc | apply pw_below_drewN | apply below_drew1) | exact HB.out)) hb); clear HB; have HB := n0_; clear n0_; (try clear hb); (try clear hb2); (try clear hk); (try clear hi)))
      go_ret
      exact ⟨by first | rfl | (simp [errW_none, errW_some] <;> rfl) | (simp [*, errW_none, errW_some] <;> rfl), by repeat (first | (with_reducible first | exact HB.out | apply below_alloc | apply pw_below_drewN | apply below_drew1) | exact HB.out)⟩

end Go.Proofs.YtcdopgkkieenjaaDoor.V
end

-- VFIpBetween
section
-- PRINTED by print.py (a twelfth state) out of the translation. Not trusted: Lean checks it.
namespace Go.Proofs.YtcdopgkkieenjaaDoor.V
open Go.RowKit Go.Proofs.YtcdopgkkieenjaaDoorW.PrintWords Go.Proofs.YtcdopgkkieenjaaDoorW.PrintLast Go.Proofs.YtcdopgkkieenjaaDoorW.PrintMore
attribute [local go_sem] max2_int min2_int max_two min_two max_three min_three max_four min_four   -- for this text's walks alone
set_option linter.unusedVariables false
set_option linter.unusedSimpArgs false

/-! ### ip_Between: function 26 -/
def ip_Between.f (a0 : Int) (a1 : Int) : Option (Int) := some (wrap64 ((wrap64 (a1)) - (wrap64 (a0))))
set_option maxHeartbeats 8000000 in
set_option maxRecDepth 100000 in
theorem ip_Between.calls (a0 : Int) (a1 : Int) (r : Int) (w : World) (h : ip_Between.f a0 a1 = some r) :
    Calls Tryd.prog 26 #[.int .u32 a0, .int .u32 a1] w fun e w' => e = .returned (.int .i64 r) ∧ Drawn0 w w' := by
  have H : (some (wrap64 ((wrap64 (a1)) - (wrap64 (a0))))) = some r := h
  clear h
  obtain rfl := Option.some.inj H
  go_enter Tryd.func26, Tryd.ntmps26
  go_wp2
  go_ret
  exact ⟨by first | rfl | (simp; done) | (simp [*]; done), by repeat (first | exact Drawn0.refl _ | apply Drawn0.step)⟩

end Go.Proofs.YtcdopgkkieenjaaDoor.V
end

-- VFIpAdd
section
-- PRINTED by print.py (a twelfth state) out of the translation. Not trusted: Lean checks it.
namespace Go.Proofs.YtcdopgkkieenjaaDoor.V
open Go.RowKit Go.Proofs.YtcdopgkkieenjaaDoorW.PrintWords Go.Proofs.YtcdopgkkieenjaaDoorW.PrintLast Go.Proofs.YtcdopgkkieenjaaDoorW.PrintMore
attribute [local go_sem] max2_int min2_int max_two min_two max_three min_three max_four min_four   -- for this text's walks alone
set_option linter.unusedVariables false
set_option linter.unusedSimpArgs false

/-! ### ip_Add: function 27 -/
def ip_Add.f (a0 : Int) (a1 : Int) : Option (Int × Int) := if a1 < (wrap64 (-(wrap64 (a0)))) then (some (0, 1)) else (if a1 > (wrap64 (4294967295 - (wrap64 (a0)))) then (some (0, 1)) else (some ((wrap64 ((wrap64 (a0)) + a1)) % 4294967296, 0)))
set_option maxHeartbeats 8000000 in
set_option maxRecDepth 100000 in
theorem ip_Add.calls (a0 : Int) (a1 : Int) (r1 : Int) (r2 : Int) (w : World) (h : ip_Add.f a0 a1 = some (r1, r2)) :
    Calls Tryd.prog 27 #[.int .u32 a0, .int .i64 a1] w fun e w' => e = .returned (.tuple #[.int .u32 r1, .int .i64 r2]) ∧ Drawn0 w w' := by
  have H : (if a1 < (wrap64 (-(wrap64 (a0)))) then (some (0, 1)) else (if a1 > (wrap64 (4294967295 - (wrap64 (a0)))) then (some (0, 1)) else (some ((wrap64 ((wrap64 (a0)) + a1)) % 4294967296, 0)))) = some (r1, r2) := h
  clear h
  by_cases c3 : a1 < (wrap64 (-(wrap64 (a0))))
  · rw [if_pos c3] at H
    have c3b0 : decide (a1 < (wrap64 (-(wrap64 (a0))))) = true := decide_eq_true c3
    clear c3
    simp only [Option.some.injEq, Prod.mk.injEq] at H
    obtain ⟨rfl, rfl⟩ := H
    go_enter Tryd.func27, Tryd.ntmps27
    go_wp2
    go_ret2
    exact ⟨by first | rfl | (simp; done) | (simp [*]; done), by repeat (first | exact Drawn0.refl _ | apply Drawn0.step)⟩
  · rw [if_neg c3] at H
    have c3b0 : decide (a1 < (wrap64 (-(wrap64 (a0))))) = false := decide_eq_false c3
    clear c3
    by_cases c4 : a1 > (wrap64 (4294967295 - (wrap64 (a0))))
    · rw [if_pos c4] at H
      have c4b0 : decide ((wrap64 (4294967295 - (wrap64 (a0)))) < a1) = true := decide_eq_true c4
      clear c4
      simp only [Option.some.injEq, Prod.mk.injEq] at H
      obtain ⟨rfl, rfl⟩ := H
      go_enter Tryd.func27, Tryd.ntmps27
      go_wp2
      go_ret2
      exact ⟨by first | rfl | (simp; done) | (simp [*]; done), by repeat (first | exact Drawn0.refl _ | apply Drawn0.step)⟩
    · rw [if_neg c4] at H
      have c4b0 : decide ((wrap64 (4294967295 - (wrap64 (a0)))) < a1) = false := decide_eq_false c4
      clear c4
      simp only [Option.some.injEq, Prod.mk.injEq] at H
      obtain ⟨rfl, rfl⟩ := H
      go_enter Tryd.func27, Tryd.ntmps27
      go_wp2
      go_ret2
      exact ⟨by first | rfl | (simp; done) | (simp [*]; done), by repeat (first | exact Drawn0.refl _ | apply Drawn0.step)⟩

end Go.Proofs.YtcdopgkkieenjaaDoor.V
end

-- VFVirgatelaw01Ipadd
section
-- PRINTED by print.py (a twelfth state) out of the translation. Not trusted: Lean checks it.
namespace Go.Proofs.YtcdopgkkieenjaaDoor.V
open Go.RowKit Go.Proofs.YtcdopgkkieenjaaDoorW.PrintWords Go.Proofs.YtcdopgkkieenjaaDoorW.PrintLast Go.Proofs.YtcdopgkkieenjaaDoorW.PrintMore
attribute [local go_sem] max2_int min2_int max_two min_two max_three min_three max_four min_four   -- for this text's walks alone
set_option linter.unusedVariables false
set_option linter.unusedSimpArgs false

/-! ### virgatelaw01_IpAdd: function 6 -/
mutual
def virgatelaw01_IpAdd.j0 : Nat → Int → Int → Bool → Option (Bool)
  | 0, _, _, _ => none
  | k + 1, x0, x2, x37 => if x37 = true then (some false) else ((ip_Add.f x0 x2).bind fun bt6104 => (if x2 ≥ (wrap64 (-(wrap64 (x0)))) then (virgatelaw01_IpAdd.j1 k x0 x2 bt6104.1 bt6104.2 (decide (x2 ≤ (wrap64 (4294967295 - (wrap64 (x0))))))) else (virgatelaw01_IpAdd.j1 k x0 x2 bt6104.1 bt6104.2 false)))
def virgatelaw01_IpAdd.j1 : Nat → Int → Int → Int → Int → Bool → Option (Bool)
  | 0, _, _, _, _, _ => none
  | k + 1, x0, x2, x10, x11, x12 => if x12 = true then (if x11 = 0 then ((ip_Between.f x0 x10).bind fun t6106 => (if t6106 = x2 then ((virgatelaw01_awake.f).bind fun t6107 => (some t6107)) else (some false))) else (some false)) else (if x11 = 1 then (if x10 = 0 then ((virgatelaw01_awake.f).bind fun t6108 => (some t6108)) else (some false)) else (some false))
end
def virgatelaw01_IpAdd.f (k : Nat) (a0 : Int) (a1 : Int) (a2 : Int) : Option (Bool) := (ip_Between.f a0 a1).bind fun t6101 => ((ip_Add.f a0 t6101).bind fun bt6102 => (if t6101 = (wrap64 ((wrap64 (a1)) - (wrap64 (a0)))) then (if bt6102.1 = a1 then (virgatelaw01_IpAdd.j0 k a0 a2 (bt6102.2 != 0)) else (virgatelaw01_IpAdd.j0 k a0 a2 true)) else (virgatelaw01_IpAdd.j0 k a0 a2 true)))
theorem virgatelaw01_IpAdd.mono_l : ∀ k, (∀ y0 y1 y2, LeO (virgatelaw01_IpAdd.j0 k y0 y1 y2) (virgatelaw01_IpAdd.j0 (k + 1) y0 y1 y2)) ∧ (∀ y0 y1 y2 y3 y4, LeO (virgatelaw01_IpAdd.j1 k y0 y1 y2 y3 y4) (virgatelaw01_IpAdd.j1 (k + 1) y0 y1 y2 y3 y4))
  | 0 => ⟨fun _ _ _ r h => by simp [virgatelaw01_IpAdd.j0] at h, fun _ _ _ _ _ r h => by simp [virgatelaw01_IpAdd.j1] at h⟩
  | k + 1 => by
    obtain ⟨ih0, ih1⟩ := virgatelaw01_IpAdd.mono_l k
    refine ⟨?_, ?_⟩
    · intro y0 y1 y2
      unfold virgatelaw01_IpAdd.j0
      repeat' first
      | (with_reducible exact ih0 _ _ _)
      | (with_reducible exact ih1 _ _ _ _ _)
      | (with_reducible exact LeO.refl _)
      | (with_reducible exact LeO.none _)
      | (with_reducible refine LeO.ite ?_ ?_)
      | (with_reducible refine LeO.bind ?_ (fun _ => ?_))
      | exact ih0 _ _ _
      | exact ih1 _ _ _ _ _
      | exact LeO.none _
      | refine LeO.ite ?_ ?_
      | refine LeO.bind ?_ (fun _ => ?_)
    · intro y0 y1 y2 y3 y4
      unfold virgatelaw01_IpAdd.j1
      repeat' first
      | (with_reducible exact ih0 _ _ _)
      | (with_reducible exact ih1 _ _ _ _ _)
      | (with_reducible exact LeO.refl _)
      | (with_reducible exact LeO.none _)
      | (with_reducible refine LeO.ite ?_ ?_)
      | (with_reducible refine LeO.bind ?_ (fun _ => ?_))
      | exact ih0 _ _ _
      | exact ih1 _ _ _ _ _
      | exact LeO.none _
      | refine LeO.ite ?_ ?_
      | refine LeO.bind ?_ (fun _ => ?_)
theorem virgatelaw01_IpAdd.mono : ∀ a0 a1 a2 k, LeO (virgatelaw01_IpAdd.f k a0 a1 a2) (virgatelaw01_IpAdd.f (k + 1) a0 a1 a2) := by
  intro a0 a1 a2 k
  obtain ⟨ih0, ih1⟩ := virgatelaw01_IpAdd.mono_l k
  unfold virgatelaw01_IpAdd.f
  repeat' first
      | (with_reducible exact ih0 _ _ _)
      | (with_reducible exact ih1 _ _ _ _ _)
      | (with_reducible exact LeO.refl _)
      | (with_reducible exact LeO.none _)
      | (with_reducible refine LeO.ite ?_ ?_)
      | (with_reducible refine LeO.bind ?_ (fun _ => ?_))
      | exact ih0 _ _ _
      | exact ih1 _ _ _ _ _
      | exact LeO.none _
      | refine LeO.ite ?_ ?_
      | refine LeO.bind ?_ (fun _ => ?_)
set_option maxHeartbeats 8000000 in
set_option maxRecDepth 100000 in
theorem virgatelaw01_IpAdd.calls (k : Nat) (a0 : Int) (a1 : Int) (a2 : Int) (r : Bool) (w : World) (h : virgatelaw01_IpAdd.f k a0 a1 a2 = some r) :
    Calls Tryd.prog 6 #[.int .u32 a0, .int .u32 a1, .int .i64 a2] w fun e w' => e = .returned (.bool r) ∧ Below w.heap.size w w' := by
  have HB := Aside0.mk (Below.refl w.heap.size w)
  have H : ((ip_Between.f a0 a1).bind fun t6101 => ((ip_Add.f a0 t6101).bind fun bt6102 => (if t6101 = (wrap64 ((wrap64 (a1)) - (wrap64 (a0)))) then (if bt6102.1 = a1 then (virgatelaw01_IpAdd.j0 k a0 a2 (bt6102.2 != 0)) else (virgatelaw01_IpAdd.j0 k a0 a2 true)) else (virgatelaw01_IpAdd.j0 k a0 a2 true)))) = some r := h
  clear h
  replace H := Option.bind_eq_some_iff.mp H
  obtain ⟨t6101, A40, H⟩ := H
  replace H : ((ip_Add.f a0 t6101).bind fun bt6102 => (if t6101 = (wrap64 ((wrap64 (a1)) - (wrap64 (a0)))) then (if bt6102.1 = a1 then (virgatelaw01_IpAdd.j0 k a0 a2 (bt6102.2 != 0)) else (virgatelaw01_IpAdd.j0 k a0 a2 true)) else (virgatelaw01_IpAdd.j0 k a0 a2 true))) = some r := H
  have A4 := Aside0.mk A40
  clear A40
  replace H := Option.bind_eq_some_iff.mp H
  obtain ⟨⟨t6102, t6103⟩, A50, H⟩ := H
  replace H : (if t6101 = (wrap64 ((wrap64 (a1)) - (wrap64 (a0)))) then (if t6102 = a1 then (virgatelaw01_IpAdd.j0 k a0 a2 (t6103 != 0)) else (virgatelaw01_IpAdd.j0 k a0 a2 true)) else (virgatelaw01_IpAdd.j0 k a0 a2 true)) = some r := H
  have A5 := Aside0.mk A50
  clear A50
  have HC6 := Aside0.mk H
  clear H
  go_enter Tryd.func6, Tryd.ntmps6
  go_upto_region 3 with (first | ((with_reducible refine gate_callee (f := 26) rfl ?_); refine goesL_ (some 15) rfl rfl Tryd.func26 (by kernel_rfl) rfl #[.int .u32 a0, .int .u32 a1] rfl (by (try simp only [List.map_toArray, List.map_cons, List.map_nil]); first | done | rfl | (simp only [List.length_drop, List.length_take]; rfl)) ?_; (with_reducible refine (ip_Between.calls a0 a1 t6101 _ A4.out).mono ?_); rintro e w' ⟨rfl, ⟨nd, rfl⟩⟩; refine ⟨_, rfl, ?_⟩) | ((with_reducible refine gate_callee (f := 27) rfl ?_); refine goesL_ (some 19) rfl rfl Tryd.func27 (by kernel_rfl) rfl #[.int .u32 a0, .int .i64 t6101] rfl (by (try simp only [List.map_toArray, List.map_cons, List.map_nil]); first | done | rfl | (simp only [List.length_drop, List.length_take]; rfl)) ?_; (with_reducible refine (ip_Add.calls a0 t6101 t6102 t6103 _ A5.out).mono ?_); rintro e w' ⟨rfl, ⟨nd, rfl⟩⟩; refine ⟨_, rfl, ?_⟩))
  (try simp only [Act.put, List.setIfInBounds_toArray, List.set_cons_zero, List.set_cons_succ])
  go_cut [37] (fun v37 wc => ∃ (kq : Nat) (x37_5 : Bool), v37 = .bool x37_5 ∧ Aside0 (virgatelaw01_IpAdd.j0 kq a0 a2 x37_5 = some r) ∧ Aside0 (kq ≤ k) ∧ Aside0 (Below w.heap.size w wc))
  case first =>
    have H := HC6.out
    clear HC6
    by_cases c7 : t6101 = (wrap64 ((wrap64 (a1)) - (wrap64 (a0))))
    · rw [if_pos c7] at H
      have c7b0 : (t6101 == (wrap64 ((wrap64 (a1)) - (wrap64 (a0))))) = true := beq_iff_eq.mpr c7
      have c7b1 : (t6101 != (wrap64 ((wrap64 (a1)) - (wrap64 (a0))))) = false := bne_eq_false_iff_eq.mpr c7
      clear c7
      (first | rw [c7b0] | (simp only [i64_w, i32_w]; rw [c7b0]) | skip)
      by_cases c8 : t6102 = a1
      · rw [if_pos c8] at H
        have c8b0 : (t6102 == a1) = true := beq_iff_eq.mpr c8
        have c8b1 : (t6102 != a1) = false := bne_eq_false_iff_eq.mpr c8
        clear c8
        have H' := Aside0.mk H
        clear H
        go_wp2
        go_meet
        case rel => exact ⟨_, ((t6103 != 0)), (by first | rfl | (simp; done) | (simp [*]; done)), H', ⟨by first | omega | exact Nat.le_refl _⟩, ⟨by repeat (first | (with_reducible first | exact HB.out | apply below_alloc | apply pw_below_drewN | apply below_drew1) | exact HB.out)⟩⟩
      · rw [if_neg c8] at H
        have c8b0 : (t6102 == a1) = false := beq_eq_false_iff_ne.mpr c8
        have c8b1 : (t6102 != a1) = true := bne_iff_ne.mpr c8
        have H' := Aside0.mk H
        clear H
        go_wp2
        go_meet
        case rel => exact ⟨_, (true), (by first | rfl | (simp; done) | (simp [*]; done)), H', ⟨by first | omega | exact Nat.le_refl _⟩, ⟨by repeat (first | (with_reducible first | exact HB.out | apply below_alloc | apply pw_below_drewN | apply below_drew1) | exact HB.out)⟩⟩
    · rw [if_neg c7] at H
      have c7b0 : (t6101 == (wrap64 ((wrap64 (a1)) - (wrap64 (a0))))) = false := beq_eq_false_iff_ne.mpr c7
      have c7b1 : (t6101 != (wrap64 ((wrap64 (a1)) - (wrap64 (a0))))) = true := bne_iff_ne.mpr c7
      (first | rw [c7b0] | (simp only [i64_w, i32_w]; rw [c7b0]) | skip)
      have H' := Aside0.mk H
      clear H
      go_wp2
      go_meet
      case rel => exact ⟨_, (true), (by first | rfl | (simp; done) | (simp [*]; done)), H', ⟨by first | omega | exact Nat.le_refl _⟩, ⟨by repeat (first | (with_reducible first | exact HB.out | apply below_alloc | apply pw_below_drewN | apply below_drew1) | exact HB.out)⟩⟩
  case rest =>
    clear HC6
    try clear c2
    try clear p2
    try clear c6
    try clear p6
    try clear c7
    try clear c7b0
    try clear c7b1
    try clear c8
    try clear c8b0
    try clear c8b1
    obtain ⟨kq, x37_5, rfl, HA, HJ5, HB⟩ := hcut
    cases kq with
    | zero => exact absurd HA.out (by simp [virgatelaw01_IpAdd.j0])
    | succ kj5 =>
      have H := HA.out
      clear HA
      simp only [virgatelaw01_IpAdd.j0] at H
      by_cases c9 : x37_5 = true
      · subst c9
        have H1 : (some false) = some r := by rw [if_pos rfl] at H; exact H
        clear H
        have H := H1
        clear H1
        obtain rfl := Option.some.inj H
        go_wp2
        go_ret
        exact ⟨by first | rfl | (simp [errW_none, errW_some] <;> rfl) | (simp [*, errW_none, errW_some] <;> rfl), by repeat (first | (with_reducible first | exact HB.out | apply below_alloc | apply pw_below_drewN | apply below_drew1) | exact HB.out)⟩
      · replace c9 := Bool.eq_false_iff.mpr c9
        subst c9
        have H1 : ((ip_Add.f a0 a2).bind fun bt6104 => (if a2 ≥ (wrap64 (-(wrap64 (a0)))) then (virgatelaw01_IpAdd.j1 kj5 a0 a2 bt6104.1 bt6104.2 (decide (a2 ≤ (wrap64 (4294967295 - (wrap64 (a0))))))) else (virgatelaw01_IpAdd.j1 kj5 a0 a2 bt6104.1 bt6104.2 false))) = some r := by rw [if_neg (show ¬ (false = true) by decide)] at H; exact H
        clear H
        have H := H1
        clear H1
        replace H := Option.bind_eq_some_iff.mp H
        obtain ⟨⟨t6104, t6105⟩, A100, H⟩ := H
        replace H : (if a2 ≥ (wrap64 (-(wrap64 (a0)))) then (virgatelaw01_IpAdd.j1 kj5 a0 a2 t6104 t6105 (decide (a2 ≤ (wrap64 (4294967295 - (wrap64 (a0))))))) else (virgatelaw01_IpAdd.j1 kj5 a0 a2 t6104 t6105 false)) = some r := H
        have A10 := Aside0.mk A100
        clear A100
        have HC11 := Aside0.mk H
        clear H
        go_upto_region 6 with (first | ((with_reducible refine gate_callee (f := 27) rfl ?_); refine goesL_ (some 41) rfl rfl Tryd.func27 (by kernel_rfl) rfl #[.int .u32 a0, .int .i64 a2] rfl (by (try simp only [List.map_toArray, List.map_cons, List.map_nil]); first | done | rfl | (simp only [List.length_drop, List.length_take]; rfl)) ?_; (with_reducible refine (ip_Add.calls a0 a2 t6104 t6105 _ A10.out).mono ?_); rintro e w' ⟨rfl, ⟨nd, rfl⟩⟩; refine ⟨_, rfl, ?_⟩))
        (try simp only [Act.put, List.setIfInBounds_toArray, List.set_cons_zero, List.set_cons_succ])
        go_cut [12] (fun v12 wc => ∃ (kq : Nat) (x12_10 : Bool), v12 = .bool x12_10 ∧ Aside0 (virgatelaw01_IpAdd.j1 kq a0 a2 t6104 t6105 x12_10 = some r) ∧ Aside0 (kq ≤ kj5) ∧ Aside0 (Below w.heap.size w wc))
        case first =>
          have H := HC11.out
          clear HC11
          by_cases c12 : a2 ≥ (wrap64 (-(wrap64 (a0))))
          · rw [if_pos c12] at H
            have c12b0 : decide ((wrap64 (-(wrap64 (a0)))) ≤ a2) = true := decide_eq_true c12
            clear c12
            (first | rw [c12b0] | (simp only [i64_w, i32_w]; rw [c12b0]) | skip)
            have H' := Aside0.mk H
            clear H
            go_wp2
            go_meet
            case rel => exact ⟨_, (decide (a2 ≤ (wrap64 (4294967295 - (wrap64 (a0)))))), (by first | rfl | (simp; done) | (simp [*]; done)), H', ⟨by have := HJ5.out; first | omega | exact Nat.le_refl _⟩, ⟨by repeat (first | (with_reducible first | exact HB.out | apply below_alloc | apply pw_below_drewN | apply below_drew1) | exact HB.out)⟩⟩
          · rw [if_neg c12] at H
            have c12b0 : decide ((wrap64 (-(wrap64 (a0)))) ≤ a2) = false := decide_eq_false c12
            clear c12
            (first | rw [c12b0] | (simp only [i64_w, i32_w]; rw [c12b0]) | skip)
            have H' := Aside0.mk H
            clear H
            go_wp2
            go_meet
            case rel => exact ⟨_, (false), (by first | rfl | (simp; done) | (simp [*]; done)), H', ⟨by have := HJ5.out; first | omega | exact Nat.le_refl _⟩, ⟨by repeat (first | (with_reducible first | exact HB.out | apply below_alloc | apply pw_below_drewN | apply below_drew1) | exact HB.out)⟩⟩
        case rest =>
          clear HC11
          try clear c1
          try clear c2
          try clear p2
          try clear c6
          try clear p6
          try clear c7
          try clear c7b0
          try clear c7b1
          try clear c8
          try clear c8b0
          try clear c8b1
          try clear c9
          try clear c12
          try clear c12b0
          try clear p2
          try clear p6
          obtain ⟨kq, x12_10, rfl, HA, HJ10, HB⟩ := hcut
          cases kq with
          | zero => exact absurd HA.out (by simp [virgatelaw01_IpAdd.j1])
          | succ kj10 =>
            have H := HA.out
            clear HA
            simp only [virgatelaw01_IpAdd.j1] at H
            by_cases c13 : x12_10 = true
            · subst c13
              have H1 : (if t6105 = 0 then ((ip_Between.f a0 t6104).bind fun t6106 => (if t6106 = a2 then ((virgatelaw01_awake.f).bind fun t6107 => (some t6107)) else (some false))) else (some false)) = some r := by rw [if_pos rfl] at H; exact H
              clear H
              have H := H1
              clear H1
              by_cases c14 : t6105 = 0
              · rw [if_pos c14] at H
                have c14b0 : (t6105 == 0) = true := beq_iff_eq.mpr c14
                have c14b1 : (t6105 != 0) = false := bne_eq_false_iff_eq.mpr c14
                clear c14
                replace H := Option.bind_eq_some_iff.mp H
                obtain ⟨t6106, A150, H⟩ := H
                replace H : (if t6106 = a2 then ((virgatelaw01_awake.f).bind fun t6107 => (some t6107)) else (some false)) = some r := H
                have A15 := Aside0.mk A150
                clear A150
                by_cases c16 : t6106 = a2
                · rw [if_pos c16] at H
                  have c16b0 : (t6106 == a2) = true := beq_iff_eq.mpr c16
                  have c16b1 : (t6106 != a2) = false := bne_eq_false_iff_eq.mpr c16
                  clear c16
                  replace H := Option.bind_eq_some_iff.mp H
                  obtain ⟨t6107, A170, H⟩ := H
                  replace H : (some t6107) = some r := H
                  have A17 := Aside0.mk A170
                  clear A170
                  obtain rfl := Option.some.inj H
                  go_wp2_with (first | (go_at_call 26; (with_reducible refine (ip_Between.calls a0 t6104 t6106 _ A15.out).mono ?_); rintro e w' ⟨rfl, ⟨nd, rfl⟩⟩) | (go_at_call 21; (with_reducible refine (virgatelaw01_awake.calls  t6107 _ A17.out).mono ?_); rintro e w18 ⟨rfl, hb⟩; have n0_ := Aside0.mk (below_step (by repeat (first | (with_reducible first | exact HB.out | apply below_alloc | apply pw_below_drewN | apply below_drew1) | exact HB.out)) hb); clear HB; have HB := n0_; clear n0_; (try clear hb); (try clear hb2); (try clear hk); (try clear hi)))
                  go_ret
                  exact ⟨by first | rfl | (simp [errW_none, errW_some] <;> rfl) | (simp [*, errW_none, errW_some] <;> rfl), by repeat (first | (with_reducible first | exact HB.out | apply below_alloc | apply pw_below_drewN | apply below_drew1) | exact HB.out)⟩
                · rw [if_neg c16] at H
                  have c16b0 : (t6106 == a2) = false := beq_eq_false_iff_ne.mpr c16
                  have c16b1 : (t6106 != a2) = true := bne_iff_ne.mpr c16
                  obtain rfl := Option.some.inj H
                  go_wp2_with (first | (go_at_call 26; (with_reducible refine (ip_Between.calls a0 t6104 t6106 _ A15.out).mono ?_); rintro e w' ⟨rfl, ⟨nd, rfl⟩⟩))
                  go_ret
                  exact ⟨by first | rfl | (simp [errW_none, errW_some] <;> rfl) | (simp [*, errW_none, errW_some] <;> rfl), by repeat (first | (with_reducible first | exact HB.out | apply below_alloc | apply pw_below_drewN | apply below_drew1) | exact HB.out)⟩
              · rw [if_neg c14] at H
                have c14b0 : (t6105 == 0) = false := beq_eq_false_iff_ne.mpr c14
                have c14b1 : (t6105 != 0) = true := bne_iff_ne.mpr c14
                obtain rfl := Option.some.inj H
                go_wp2
                go_ret
                exact ⟨by first | rfl | (simp [errW_none, errW_some] <;> rfl) | (simp [*, errW_none, errW_some] <;> rfl), by repeat (first | (with_reducible first | exact HB.out | apply below_alloc | apply pw_below_drewN | apply below_drew1) | exact HB.out)⟩
            · replace c13 := Bool.eq_false_iff.mpr c13
              subst c13
              have H1 : (if t6105 = 1 then (if t6104 = 0 then ((virgatelaw01_awake.f).bind fun t6108 => (some t6108)) else (some false)) else (some false)) = some r := by rw [if_neg (show ¬ (false = true) by decide)] at H; exact H
              clear H
              have H := H1
              clear H1
              by_cases c19 : t6105 = 1
              · rw [if_pos c19] at H
                have c19b0 : (t6105 == 1) = true := beq_iff_eq.mpr c19
                have c19b1 : (t6105 != 1) = false := bne_eq_false_iff_eq.mpr c19
                clear c19
                by_cases c20 : t6104 = 0
                · rw [if_pos c20] at H
                  have c20b0 : (t6104 == 0) = true := beq_iff_eq.mpr c20
                  have c20b1 : (t6104 != 0) = false := bne_eq_false_iff_eq.mpr c20
                  clear c20
                  replace H := Option.bind_eq_some_iff.mp H
                  obtain ⟨t6108, A210, H⟩ := H
                  replace H : (some t6108) = some r := H
                  have A21 := Aside0.mk A210
                  clear A210
                  obtain rfl := Option.some.inj H
                  go_wp2_with (first | (go_at_call 21; (with_reducible refine (virgatelaw01_awake.calls  t6108 _ A21.out).mono ?_); rintro e w22 ⟨rfl, hb⟩; have n0_ := Aside0.mk (below_step (by repeat (first | (with_reducible first | exact HB.out | apply below_alloc | apply pw_below_drewN | apply below_drew1) | exact HB.out)) hb); clear HB; have HB := n0_; clear n0_; (try clear hb); (try clear hb2); (try clear hk); (try clear hi)))
                  go_ret
                  exact ⟨by first | rfl | (simp [errW_none, errW_some] <;> rfl) | (simp [*, errW_none, errW_some] <;> rfl), by repeat (first | (with_reducible first | exact HB.out | apply below_alloc | apply pw_below_drewN | apply below_drew1) | exact HB.out)⟩
                · rw [if_neg c20] at H
                  have c20b0 : (t6104 == 0) = false := beq_eq_false_iff_ne.mpr c20
                  have c20b1 : (t6104 != 0) = true := bne_iff_ne.mpr c20
                  obtain rfl := Option.some.inj H
                  go_wp2
                  go_ret
                  exact ⟨by first | rfl | (simp [errW_none, errW_some] <;> rfl) | (simp [*, errW_none, errW_some] <;> rfl), by repeat (first | (with_reducible first | exact HB.out | apply below_alloc | apply pw_below_drewN | apply below_drew1) | exact HB.out)⟩
              · rw [if_neg c19] at H
                have c19b0 : (t6105 == 1) = false := beq_eq_false_iff_ne.mpr c19
                have c19b1 : (t6105 != 1) = true := bne_iff_ne.mpr c19
                obtain rfl := Option.some.inj H
                go_wp2
                go_ret
                exact ⟨by first | rfl | (simp [errW_none, errW_some] <;> rfl) | (simp [*, errW_none, errW_some] <;> rfl), by repeat (first | (with_reducible first | exact HB.out | apply below_alloc | apply pw_below_drewN | apply below_drew1) | exact HB.out)⟩

end Go.Proofs.YtcdopgkkieenjaaDoor.V
end

-- VFIpBit
section
-- PRINTED by print.py (a twelfth state) out of the translation. Not trusted: Lean checks it.
namespace Go.Proofs.YtcdopgkkieenjaaDoor.V
open Go.RowKit Go.Proofs.YtcdopgkkieenjaaDoorW.PrintWords Go.Proofs.YtcdopgkkieenjaaDoorW.PrintLast Go.Proofs.YtcdopgkkieenjaaDoorW.PrintMore
attribute [local go_sem] max2_int min2_int max_two min_two max_three min_three max_four min_four   -- for this text's walks alone
set_option linter.unusedVariables false
set_option linter.unusedSimpArgs false

/-! ### ip_Bit: function 28 -/
def ip_Bit.f (a0 : Int) (a1 : Int) : Option (Bool) := if a1 ≥ 0 then (if a1 < 32 then (if 0 ≤ (wrap64 (31 - a1)) then (some ((Go.bits .and .u32 (shr .u32 a0 (wrap64 (31 - a1))) 1) == 1)) else (none)) else (some false)) else (some false)
set_option maxHeartbeats 8000000 in
set_option maxRecDepth 100000 in
theorem ip_Bit.calls (a0 : Int) (a1 : Int) (r : Bool) (w : World) (h : ip_Bit.f a0 a1 = some r) :
    Calls Tryd.prog 28 #[.int .u32 a0, .int .i64 a1] w fun e w' => e = .returned (.bool r) ∧ Drawn0 w w' := by
  have H : (if a1 ≥ 0 then (if a1 < 32 then (if 0 ≤ (wrap64 (31 - a1)) then (some ((Go.bits .and .u32 (shr .u32 a0 (wrap64 (31 - a1))) 1) == 1)) else (none)) else (some false)) else (some false)) = some r := h
  clear h
  by_cases c3 : a1 ≥ 0
  · rw [if_pos c3] at H
    have c3b0 : decide (0 ≤ a1) = true := decide_eq_true c3
    clear c3
    by_cases c4 : a1 < 32
    · rw [if_pos c4] at H
      have c4b0 : decide (a1 < 32) = true := decide_eq_true c4
      clear c4
      obtain ⟨ji5, hji5⟩ : ∃ j_ : Int, (wrap64 (31 - a1)) = j_ := ⟨_, rfl⟩
      replace H : (if 0 ≤ (ji5) then (some ((Go.bits .and .u32 (shr .u32 a0 (ji5)) 1) == 1)) else (none)) = some r := by first | (rw [hji5] at H; exact H) | (simp only [hji5] at H ⊢; exact H)
      have hji5w : (IntKind.i64.wrap (31 - a1)) = ji5 := (i64_w _).trans hji5
      by_cases c6 : 0 ≤ (ji5)
      · rw [if_pos c6] at H
        have c6b0 := eq_true c6
        have c6b1 : decide (0 ≤ (ji5)) = true := decide_eq_true c6
        clear c6
        obtain ⟨ji7, hji7⟩ : ∃ j_ : Int, (shr .u32 a0 (ji5)) = j_ := ⟨_, rfl⟩
        replace H : (some ((Go.bits .and .u32 (ji7) 1) == 1)) = some r := by first | (rw [hji7] at H; exact H) | (simp only [hji7] at H ⊢; exact H)
        have hji7_ : (a0 / 2 ^ min (ji5).toNat 32) = ji7 := hji7
        have hji7z : (ji5) ≤ 32 → (a0 / 2 ^ (ji5).toNat) = ji7 := shr_small hji7
        obtain rfl := Option.some.inj H
        go_enter Tryd.func28, Tryd.ntmps28
        go_wp2
        go_ret
        exact ⟨by first | rfl | (simp; done) | (simp only [← hji5, ← hji7] <;> (first | rfl | simp)) | (simp [*]; done), by repeat (first | exact Drawn0.refl _ | apply Drawn0.step)⟩
      · rw [if_neg c6] at H
        exact absurd H (by simp)
    · rw [if_neg c4] at H
      have c4b0 : decide (a1 < 32) = false := decide_eq_false c4
      clear c4
      obtain rfl := Option.some.inj H
      go_enter Tryd.func28, Tryd.ntmps28
      go_wp2
      go_ret
      exact ⟨by first | rfl | (simp; done) | (simp [*]; done), by repeat (first | exact Drawn0.refl _ | apply Drawn0.step)⟩
  · rw [if_neg c3] at H
    have c3b0 : decide (0 ≤ a1) = false := decide_eq_false c3
    clear c3
    obtain rfl := Option.some.inj H
    go_enter Tryd.func28, Tryd.ntmps28
    go_wp2
    go_ret
    exact ⟨by first | rfl | (simp; done) | (simp [*]; done), by repeat (first | exact Drawn0.refl _ | apply Drawn0.step)⟩

end Go.Proofs.YtcdopgkkieenjaaDoor.V
end

-- VFVirgateref01Bit
section
-- PRINTED by print.py (a twelfth state) out of the translation. Not trusted: Lean checks it.
namespace Go.Proofs.YtcdopgkkieenjaaDoor.V
open Go.RowKit Go.Proofs.YtcdopgkkieenjaaDoorW.PrintWords Go.Proofs.YtcdopgkkieenjaaDoorW.PrintLast Go.Proofs.YtcdopgkkieenjaaDoorW.PrintMore
attribute [local go_sem] max2_int min2_int max_two min_two max_three min_three max_four min_four   -- for this text's walks alone
set_option linter.unusedVariables false
set_option linter.unusedSimpArgs false

/-! ### virgateref01_Bit: function 29 -/
mutual
def virgateref01_Bit.j0 : Nat → Int → Int → Bool → Option (Bool)
  | 0, _, _, _ => none
  | k + 1, x0, x1, x12 => if x12 = true then (some false) else (virgateref01_Bit.l0 k (wrap64 (x0)) x1)
def virgateref01_Bit.l0 : Nat → Int → Int → Option (Bool)
  | 0, _, _ => none
  | k + 1, x5, x6 => if x6 < 31 then (virgateref01_Bit.l0 k (wrap64 (Int.tdiv x5 2)) (wrap64 (x6 + 1))) else (some ((Int.tmod x5 2) == 1))
end
def virgateref01_Bit.f (k : Nat) (a0 : Int) (a1 : Int) : Option (Bool) := if a1 < 0 then (virgateref01_Bit.j0 k a0 a1 true) else (virgateref01_Bit.j0 k a0 a1 (decide (a1 > 31)))
theorem virgateref01_Bit.mono_l : ∀ k, (∀ y0 y1 y2, LeO (virgateref01_Bit.j0 k y0 y1 y2) (virgateref01_Bit.j0 (k + 1) y0 y1 y2)) ∧ (∀ y0 y1, LeO (virgateref01_Bit.l0 k y0 y1) (virgateref01_Bit.l0 (k + 1) y0 y1))
  | 0 => ⟨fun _ _ _ r h => by simp [virgateref01_Bit.j0] at h, fun _ _ r h => by simp [virgateref01_Bit.l0] at h⟩
  | k + 1 => by
    obtain ⟨ih0, ih1⟩ := virgateref01_Bit.mono_l k
    refine ⟨?_, ?_⟩
    · intro y0 y1 y2
      unfold virgateref01_Bit.j0
      repeat' first
      | (with_reducible exact ih0 _ _ _)
      | (with_reducible exact ih1 _ _)
      | (with_reducible exact LeO.refl _)
      | (with_reducible exact LeO.none _)
      | (with_reducible refine LeO.ite ?_ ?_)
      | (with_reducible refine LeO.bind ?_ (fun _ => ?_))
      | exact ih0 _ _ _
      | exact ih1 _ _
      | exact LeO.none _
      | refine LeO.ite ?_ ?_
      | refine LeO.bind ?_ (fun _ => ?_)
    · intro y0 y1
      unfold virgateref01_Bit.l0
      repeat' first
      | (with_reducible exact ih0 _ _ _)
      | (with_reducible exact ih1 _ _)
      | (with_reducible exact LeO.refl _)
      | (with_reducible exact LeO.none _)
      | (with_reducible refine LeO.ite ?_ ?_)
      | (with_reducible refine LeO.bind ?_ (fun _ => ?_))
      | exact ih0 _ _ _
      | exact ih1 _ _
      | exact LeO.none _
      | refine LeO.ite ?_ ?_
      | refine LeO.bind ?_ (fun _ => ?_)
theorem virgateref01_Bit.mono : ∀ a0 a1 k, LeO (virgateref01_Bit.f k a0 a1) (virgateref01_Bit.f (k + 1) a0 a1) := by
  intro a0 a1 k
  obtain ⟨ih0, ih1⟩ := virgateref01_Bit.mono_l k
  unfold virgateref01_Bit.f
  repeat' first
      | (with_reducible exact ih0 _ _ _)
      | (with_reducible exact ih1 _ _)
      | (with_reducible exact LeO.refl _)
      | (with_reducible exact LeO.none _)
      | (with_reducible refine LeO.ite ?_ ?_)
      | (with_reducible refine LeO.bind ?_ (fun _ => ?_))
      | exact ih0 _ _ _
      | exact ih1 _ _
      | exact LeO.none _
      | refine LeO.ite ?_ ?_
      | refine LeO.bind ?_ (fun _ => ?_)
set_option maxHeartbeats 8000000 in
set_option maxRecDepth 100000 in
theorem virgateref01_Bit.calls (k : Nat) (a0 : Int) (a1 : Int) (r : Bool) (w : World) (h : virgateref01_Bit.f k a0 a1 = some r) :
    Calls Tryd.prog 29 #[.int .u32 a0, .int .i64 a1] w fun e w' => e = .returned (.bool r) ∧ Drawn0 w w' := by
  have H : (if a1 < 0 then (virgateref01_Bit.j0 k a0 a1 true) else (virgateref01_Bit.j0 k a0 a1 (decide (a1 > 31)))) = some r := h
  clear h
  have HC3 := Aside0.mk H
  clear H
  go_enter Tryd.func29, Tryd.ntmps29
  go_upto_region 1 with (fail)
  go_cut [12] (fun v12 wc => ∃ (kq : Nat) (x12_2 : Bool), v12 = .bool x12_2 ∧ Aside0 (virgateref01_Bit.j0 kq a0 a1 x12_2 = some r) ∧ Aside0 (kq ≤ k) ∧ Drawn0 w wc)
  case first =>
    have H := HC3.out
    clear HC3
    by_cases c4 : a1 < 0
    · rw [if_pos c4] at H
      have c4b0 : decide (a1 < 0) = true := decide_eq_true c4
      clear c4
      (first | rw [c4b0] | (simp only [i64_w, i32_w]; rw [c4b0]) | skip)
      have H' := Aside0.mk H
      clear H
      go_wp2
      go_meet
      case rel => exact ⟨_, (true), (by first | rfl | (simp; done) | (simp [*]; done)), H', ⟨by first | omega | exact Nat.le_refl _⟩, by repeat (first | exact Drawn0.refl _ | apply Drawn0.step)⟩
    · rw [if_neg c4] at H
      have c4b0 : decide (a1 < 0) = false := decide_eq_false c4
      clear c4
      (first | rw [c4b0] | (simp only [i64_w, i32_w]; rw [c4b0]) | skip)
      have H' := Aside0.mk H
      clear H
      go_wp2
      go_meet
      case rel => exact ⟨_, (decide (a1 > 31)), (by first | rfl | (simp; done) | (simp [*]; done)), H', ⟨by first | omega | exact Nat.le_refl _⟩, by repeat (first | exact Drawn0.refl _ | apply Drawn0.step)⟩
  case rest =>
    clear HC3
    try clear c2
    try clear p2
    try clear c4
    try clear c4b0
    obtain ⟨kq, x12_2, rfl, HA, HJ2, ⟨mc2, rfl⟩⟩ := hcut
    cases kq with
    | zero => exact absurd HA.out (by simp [virgateref01_Bit.j0])
    | succ kj2 =>
      have H := HA.out
      clear HA
      simp only [virgateref01_Bit.j0] at H
      by_cases c5 : x12_2 = true
      · subst c5
        have H1 : (some false) = some r := by rw [if_pos rfl] at H; exact H
        clear H
        have H := H1
        clear H1
        obtain rfl := Option.some.inj H
        go_wp2
        go_ret
        exact ⟨by first | rfl | (simp; done) | (simp [*]; done), by repeat (first | exact Drawn0.refl _ | apply Drawn0.step)⟩
      · replace c5 := Bool.eq_false_iff.mpr c5
        subst c5
        have H1 : (virgateref01_Bit.l0 kj2 (wrap64 (a0)) a1) = some r := by rw [if_neg (show ¬ (false = true) by decide)] at H; exact H
        clear H
        have H := H1
        clear H1
        have H' := Aside0.mk H
        clear H
        go_wp2
        go_loopg [5, 6] kj2 (fun kq v5 v6 w' => ∃ (x5_2 : Int) (x6_2 : Int), v5 = .int .i64 x5_2 ∧ v6 = .int .i64 x6_2 ∧ Aside0 (virgateref01_Bit.l0 kq x5_2 x6_2 = some r) ∧ Aside0 (kq ≤ kj2) ∧ Drawn0 w w')
        case atStart => exact ⟨(wrap64 (a0)), (a1), (by first | rfl | (simp; done) | (simp [*]; done)), (by first | rfl | (simp; done) | (simp [*]; done)), H', ⟨Nat.le_refl _⟩, by repeat (first | exact Drawn0.refl _ | apply Drawn0.step)⟩
        case round =>
          clear H'
          try clear c2
          try clear p2
          try clear c4
          try clear c4b0
          try clear c5
          try clear p2
          obtain ⟨x5_2, x6_2, rfl, rfl, HA, HK2, ⟨m2, rfl⟩⟩ := hrel
          cases gk with
          | zero => exact absurd HA.out (by simp [virgateref01_Bit.l0])
          | succ k2 =>
            have H := HA.out
            clear HA
            simp only [virgateref01_Bit.l0] at H
            by_cases c6 : x6_2 < 31
            · rw [if_pos c6] at H
              have c6b0 : decide (x6_2 < 31) = true := decide_eq_true c6
              clear c6
              have H' := Aside0.mk H
              clear H
              go_wp2
              go_roundg k2
              case measure => have := HJ2.out; have := HK2.out; omega
              case rel => exact ⟨(wrap64 (Int.tdiv x5_2 2)), (wrap64 (x6_2 + 1)), (by first | rfl | (simp; done) | (simp [*]; done)), (by first | rfl | (simp; done) | (simp [*]; done)), H', ⟨by have := HJ2.out; have := HK2.out; omega⟩, by repeat (first | exact Drawn0.refl _ | apply Drawn0.step)⟩
            · rw [if_neg c6] at H
              have c6b0 : decide (x6_2 < 31) = false := decide_eq_false c6
              clear c6
              obtain rfl := Option.some.inj H
              go_wp2
              go_ret
              exact ⟨by first | rfl | (simp; done) | (simp [*]; done), by repeat (first | exact Drawn0.refl _ | apply Drawn0.step)⟩

end Go.Proofs.YtcdopgkkieenjaaDoor.V
end

-- VFIpLead
section
-- PRINTED by print.py (a twelfth state) out of the translation. Not trusted: Lean checks it.
namespace Go.Proofs.YtcdopgkkieenjaaDoor.V
open Go.RowKit Go.Proofs.YtcdopgkkieenjaaDoorW.PrintWords Go.Proofs.YtcdopgkkieenjaaDoorW.PrintLast Go.Proofs.YtcdopgkkieenjaaDoorW.PrintMore
attribute [local go_sem] max2_int min2_int max_two min_two max_three min_three max_four min_four   -- for this text's walks alone
set_option linter.unusedVariables false
set_option linter.unusedSimpArgs false

/-! ### ip_Lead: function 30 -/
def ip_Lead.l0 : Nat → Int → Int → Option (Int)
  | 0, _, _ => none
  | k + 1, x5, x6 => if x5 < 32 then (if (x6 / 2147483648) = 0 then (ip_Lead.l0 k (wrap64 (x5 + 1)) ((x6 * 2) % 4294967296)) else (some x5)) else (some x5)
def ip_Lead.f (k : Nat) (a0 : Int) (a1 : Int) : Option (Int) := ip_Lead.l0 k 0 (Go.bits .xor .u32 a0 a1)
theorem ip_Lead.mono_l : ∀ k, (∀ y0 y1, LeO (ip_Lead.l0 k y0 y1) (ip_Lead.l0 (k + 1) y0 y1))
  | 0 => fun _ _ r h => by simp [ip_Lead.l0] at h
  | k + 1 => by
    have ih0 := ip_Lead.mono_l k
    · intro y0 y1
      unfold ip_Lead.l0
      repeat' first
      | (with_reducible exact ih0 _ _)
      | (with_reducible exact LeO.refl _)
      | (with_reducible exact LeO.none _)
      | (with_reducible refine LeO.ite ?_ ?_)
      | (with_reducible refine LeO.bind ?_ (fun _ => ?_))
      | exact ih0 _ _
      | exact LeO.none _
      | refine LeO.ite ?_ ?_
      | refine LeO.bind ?_ (fun _ => ?_)
theorem ip_Lead.mono : ∀ a0 a1 k, LeO (ip_Lead.f k a0 a1) (ip_Lead.f (k + 1) a0 a1) := by
  intro a0 a1 k
  have ih0 := ip_Lead.mono_l k
  unfold ip_Lead.f
  repeat' first
      | (with_reducible exact ih0 _ _)
      | (with_reducible exact LeO.refl _)
      | (with_reducible exact LeO.none _)
      | (with_reducible refine LeO.ite ?_ ?_)
      | (with_reducible refine LeO.bind ?_ (fun _ => ?_))
      | exact ih0 _ _
      | exact LeO.none _
      | refine LeO.ite ?_ ?_
      | refine LeO.bind ?_ (fun _ => ?_)
set_option maxHeartbeats 8000000 in
set_option maxRecDepth 100000 in
theorem ip_Lead.calls (k : Nat) (a0 : Int) (a1 : Int) (r : Int) (w : World) (h : ip_Lead.f k a0 a1 = some r) :
    Calls Tryd.prog 30 #[.int .u32 a0, .int .u32 a1] w fun e w' => e = .returned (.int .i64 r) ∧ Drawn0 w w' := by
  have H : (ip_Lead.l0 k 0 (Go.bits .xor .u32 a0 a1)) = some r := h
  clear h
  have H' := Aside0.mk H
  clear H
  go_enter Tryd.func30, Tryd.ntmps30
  go_wp2
  go_loopg [5, 6] k (fun kq v5 v6 w' => ∃ (x5_1 : Int) (x6_1 : Int), v5 = .int .i64 x5_1 ∧ v6 = .int .u32 x6_1 ∧ Aside0 (ip_Lead.l0 kq x5_1 x6_1 = some r) ∧ Aside0 (kq ≤ k) ∧ Drawn0 w w')
  case atStart => exact ⟨(0), (Go.bits .xor .u32 a0 a1), (by first | rfl | (simp; done) | (simp [*]; done)), (by first | rfl | (simp; done) | (simp [*]; done)), H', ⟨Nat.le_refl _⟩, by repeat (first | exact Drawn0.refl _ | apply Drawn0.step)⟩
  case round =>
    clear H'
    try clear p2
    obtain ⟨x5_1, x6_1, rfl, rfl, HA, HK1, ⟨m1, rfl⟩⟩ := hrel
    cases gk with
    | zero => exact absurd HA.out (by simp [ip_Lead.l0])
    | succ k1 =>
      have H := HA.out
      clear HA
      simp only [ip_Lead.l0] at H
      by_cases c3 : x5_1 < 32
      · rw [if_pos c3] at H
        have c3b0 : decide (x5_1 < 32) = true := decide_eq_true c3
        clear c3
        by_cases c4 : (x6_1 / 2147483648) = 0
        · rw [if_pos c4] at H
          have c4b0 : ((x6_1 / 2147483648) == 0) = true := beq_iff_eq.mpr c4
          have c4b1 : ((x6_1 / 2147483648) != 0) = false := bne_eq_false_iff_eq.mpr c4
          clear c4
          have H' := Aside0.mk H
          clear H
          go_wp2
          go_roundg k1
          case measure => have := HK1.out; omega
          case rel => exact ⟨(wrap64 (x5_1 + 1)), ((x6_1 * 2) % 4294967296), (by first | rfl | (simp; done) | (simp [*]; done)), (by first | rfl | (simp; done) | (simp [*]; done)), H', ⟨by have := HK1.out; omega⟩, by repeat (first | exact Drawn0.refl _ | apply Drawn0.step)⟩
        · rw [if_neg c4] at H
          have c4b0 : ((x6_1 / 2147483648) == 0) = false := beq_eq_false_iff_ne.mpr c4
          have c4b1 : ((x6_1 / 2147483648) != 0) = true := bne_iff_ne.mpr c4
          obtain rfl := Option.some.inj H
          go_wp2
          go_ret
          exact ⟨by first | rfl | (simp; done) | (simp [*]; done), by repeat (first | exact Drawn0.refl _ | apply Drawn0.step)⟩
      · rw [if_neg c3] at H
        have c3b0 : decide (x5_1 < 32) = false := decide_eq_false c3
        clear c3
        obtain rfl := Option.some.inj H
        go_wp2
        go_ret
        exact ⟨by first | rfl | (simp; done) | (simp [*]; done), by repeat (first | exact Drawn0.refl _ | apply Drawn0.step)⟩

end Go.Proofs.YtcdopgkkieenjaaDoor.V
end

-- VFVirgateref01Lead
section
-- PRINTED by print.py (a twelfth state) out of the translation. Not trusted: Lean checks it.
namespace Go.Proofs.YtcdopgkkieenjaaDoor.V
open Go.RowKit Go.Proofs.YtcdopgkkieenjaaDoorW.PrintWords Go.Proofs.YtcdopgkkieenjaaDoorW.PrintLast Go.Proofs.YtcdopgkkieenjaaDoorW.PrintMore
attribute [local go_sem] max2_int min2_int max_two min_two max_three min_three max_four min_four   -- for this text's walks alone
set_option linter.unusedVariables false
set_option linter.unusedSimpArgs false

/-! ### virgateref01_Lead: function 31 -/
def virgateref01_Lead.l0 : Nat → Int → Int → Int → Option (Int)
  | 0, _, _, _ => none
  | k + 1, x0, x1, x5 => if x5 < 32 then ((virgateref01_Bit.f k x0 x5).bind fun t31101 => ((virgateref01_Bit.f k x1 x5).bind fun t31102 => (if (t31101 == t31102) = true then (virgateref01_Lead.l0 k x0 x1 (wrap64 (x5 + 1))) else (some x5)))) else (some x5)
def virgateref01_Lead.f (k : Nat) (a0 : Int) (a1 : Int) : Option (Int) := virgateref01_Lead.l0 k a0 a1 0
theorem virgateref01_Lead.mono_l : ∀ k, (∀ y0 y1 y2, LeO (virgateref01_Lead.l0 k y0 y1 y2) (virgateref01_Lead.l0 (k + 1) y0 y1 y2))
  | 0 => fun _ _ _ r h => by simp [virgateref01_Lead.l0] at h
  | k + 1 => by
    have ih0 := virgateref01_Lead.mono_l k
    · intro y0 y1 y2
      unfold virgateref01_Lead.l0
      repeat' first
      | (with_reducible exact ih0 _ _ _)
      | (with_reducible exact virgateref01_Bit.mono _ _ _)
      | (with_reducible exact LeO.refl _)
      | (with_reducible exact LeO.none _)
      | (with_reducible refine LeO.ite ?_ ?_)
      | (with_reducible refine LeO.bind ?_ (fun _ => ?_))
      | exact ih0 _ _ _
      | exact virgateref01_Bit.mono _ _ _
      | exact LeO.none _
      | refine LeO.ite ?_ ?_
      | refine LeO.bind ?_ (fun _ => ?_)
theorem virgateref01_Lead.mono : ∀ a0 a1 k, LeO (virgateref01_Lead.f k a0 a1) (virgateref01_Lead.f (k + 1) a0 a1) := by
  intro a0 a1 k
  have ih0 := virgateref01_Lead.mono_l k
  unfold virgateref01_Lead.f
  repeat' first
      | (with_reducible exact ih0 _ _ _)
      | (with_reducible exact virgateref01_Bit.mono _ _ _)
      | (with_reducible exact LeO.refl _)
      | (with_reducible exact LeO.none _)
      | (with_reducible refine LeO.ite ?_ ?_)
      | (with_reducible refine LeO.bind ?_ (fun _ => ?_))
      | exact ih0 _ _ _
      | exact virgateref01_Bit.mono _ _ _
      | exact LeO.none _
      | refine LeO.ite ?_ ?_
      | refine LeO.bind ?_ (fun _ => ?_)
set_option maxHeartbeats 8000000 in
set_option maxRecDepth 100000 in
theorem virgateref01_Lead.calls (k : Nat) (a0 : Int) (a1 : Int) (r : Int) (w : World) (h : virgateref01_Lead.f k a0 a1 = some r) :
    Calls Tryd.prog 31 #[.int .u32 a0, .int .u32 a1] w fun e w' => e = .returned (.int .i64 r) ∧ Drawn0 w w' := by
  have H : (virgateref01_Lead.l0 k a0 a1 0) = some r := h
  clear h
  have H' := Aside0.mk H
  clear H
  go_enter Tryd.func31, Tryd.ntmps31
  go_wp2
  go_loopg [5] k (fun kq v5 w' => ∃ (x5_1 : Int), v5 = .int .i64 x5_1 ∧ Aside0 (virgateref01_Lead.l0 kq a0 a1 x5_1 = some r) ∧ Aside0 (kq ≤ k) ∧ Drawn0 w w')
  case atStart => exact ⟨(0), (by first | rfl | (simp; done) | (simp [*]; done)), H', ⟨Nat.le_refl _⟩, by repeat (first | exact Drawn0.refl _ | apply Drawn0.step)⟩
  case round =>
    clear H'
    try clear p2
    obtain ⟨x5_1, rfl, HA, HK1, ⟨m1, rfl⟩⟩ := hrel
    cases gk with
    | zero => exact absurd HA.out (by simp [virgateref01_Lead.l0])
    | succ k1 =>
      have H := HA.out
      clear HA
      simp only [virgateref01_Lead.l0] at H
      by_cases c3 : x5_1 < 32
      · rw [if_pos c3] at H
        have c3b0 : decide (x5_1 < 32) = true := decide_eq_true c3
        clear c3
        replace H := Option.bind_eq_some_iff.mp H
        obtain ⟨t31101, A40, H⟩ := H
        replace H : ((virgateref01_Bit.f k1 a1 x5_1).bind fun t31102 => (if (t31101 == t31102) = true then (virgateref01_Lead.l0 k1 a0 a1 (wrap64 (x5_1 + 1))) else (some x5_1))) = some r := H
        have A4 := Aside0.mk A40
        clear A40
        replace H := Option.bind_eq_some_iff.mp H
        obtain ⟨t31102, A50, H⟩ := H
        replace H : (if (t31101 == t31102) = true then (virgateref01_Lead.l0 k1 a0 a1 (wrap64 (x5_1 + 1))) else (some x5_1)) = some r := H
        have A5 := Aside0.mk A50
        clear A50
        by_cases c6 : (t31101 == t31102) = true
        · rw [if_pos c6] at H
          have c6b0 : (t31101 == t31102) = true := c6
          (try (have c6b1 : decide (t31101 = t31102) = true := by simpa using c6))
          (try (have c6b2 : (t31101 == t31102) = true := by simpa using c6))
          clear c6
          have H' := Aside0.mk H
          clear H
          go_wp2_with (first | (go_at_call 29; (with_reducible refine (virgateref01_Bit.calls k1 a0 x5_1 t31101 _ A4.out).mono ?_); rintro e w' ⟨rfl, ⟨nd, rfl⟩⟩) | (go_at_call 29; (with_reducible refine (virgateref01_Bit.calls k1 a1 x5_1 t31102 _ A5.out).mono ?_); rintro e w' ⟨rfl, ⟨nd, rfl⟩⟩))
          go_roundg k1
          case measure => have := HK1.out; omega
          case rel => exact ⟨(wrap64 (x5_1 + 1)), (by first | rfl | (simp; done) | (simp [*]; done)), H', ⟨by have := HK1.out; omega⟩, by repeat (first | exact Drawn0.refl _ | apply Drawn0.step)⟩
        · rw [if_neg c6] at H
          have c6b0 : (t31101 == t31102) = false := by simpa using c6
          (try (have c6b1 : decide (t31101 = t31102) = false := by simpa using c6))
          (try (have c6b2 : (t31101 == t31102) = false := by simpa using c6))
          (try (have c6b3 : ¬ (t31101 = t31102) := by simpa using c6))
          clear c6
          obtain rfl := Option.some.inj H
          go_wp2_with (first | (go_at_call 29; (with_reducible refine (virgateref01_Bit.calls k1 a0 x5_1 t31101 _ A4.out).mono ?_); rintro e w' ⟨rfl, ⟨nd, rfl⟩⟩) | (go_at_call 29; (with_reducible refine (virgateref01_Bit.calls k1 a1 x5_1 t31102 _ A5.out).mono ?_); rintro e w' ⟨rfl, ⟨nd, rfl⟩⟩))
          go_ret
          exact ⟨by first | rfl | (simp; done) | (simp [*]; done), by repeat (first | exact Drawn0.refl _ | apply Drawn0.step)⟩
      · rw [if_neg c3] at H
        have c3b0 : decide (x5_1 < 32) = false := decide_eq_false c3
        clear c3
        obtain rfl := Option.some.inj H
        go_wp2
        go_ret
        exact ⟨by first | rfl | (simp; done) | (simp [*]; done), by repeat (first | exact Drawn0.refl _ | apply Drawn0.step)⟩

end Go.Proofs.YtcdopgkkieenjaaDoor.V
end

-- VFVirgatelaw01Ipbits
section
-- PRINTED by print.py (a twelfth state) out of the translation. Not trusted: Lean checks it.
namespace Go.Proofs.YtcdopgkkieenjaaDoor.V
open Go.RowKit Go.Proofs.YtcdopgkkieenjaaDoorW.PrintWords Go.Proofs.YtcdopgkkieenjaaDoorW.PrintLast Go.Proofs.YtcdopgkkieenjaaDoorW.PrintMore
attribute [local go_sem] max2_int min2_int max_two min_two max_three min_three max_four min_four   -- for this text's walks alone
set_option linter.unusedVariables false
set_option linter.unusedSimpArgs false

/-! ### virgatelaw01_IpBits: function 7 -/
def virgatelaw01_IpBits.f (k : Nat) (a0 : Int) (a1 : Int) (a2 : Int) : Option (Bool) := (ip_Bit.f a0 a2).bind fun t7101 => ((virgateref01_Bit.f k a0 a2).bind fun t7102 => (if (t7101 == t7102) = true then ((ip_Lead.f k a0 a1).bind fun t7103 => ((virgateref01_Lead.f k a0 a1).bind fun t7104 => (if t7103 = t7104 then ((virgatelaw01_awake.f).bind fun t7105 => (some t7105)) else (some false)))) else (some false)))
theorem virgatelaw01_IpBits.mono : ∀ a0 a1 a2 k, LeO (virgatelaw01_IpBits.f k a0 a1 a2) (virgatelaw01_IpBits.f (k + 1) a0 a1 a2) := by
  intro a0 a1 a2 k
  unfold virgatelaw01_IpBits.f
  repeat' first
      | (with_reducible exact ip_Lead.mono _ _ _)
      | (with_reducible exact virgateref01_Bit.mono _ _ _)
      | (with_reducible exact virgateref01_Lead.mono _ _ _)
      | (with_reducible exact LeO.refl _)
      | (with_reducible exact LeO.none _)
      | (with_reducible refine LeO.ite ?_ ?_)
      | (with_reducible refine LeO.bind ?_ (fun _ => ?_))
      | exact ip_Lead.mono _ _ _
      | exact virgateref01_Bit.mono _ _ _
      | exact virgateref01_Lead.mono _ _ _
      | exact LeO.none _
      | refine LeO.ite ?_ ?_
      | refine LeO.bind ?_ (fun _ => ?_)
set_option maxHeartbeats 8000000 in
set_option maxRecDepth 100000 in
theorem virgatelaw01_IpBits.calls (k : Nat) (a0 : Int) (a1 : Int) (a2 : Int) (r : Bool) (w : World) (h : virgatelaw01_IpBits.f k a0 a1 a2 = some r) :
    Calls Tryd.prog 7 #[.int .u32 a0, .int .u32 a1, .int .i64 a2] w fun e w' => e = .returned (.bool r) ∧ Below w.heap.size w w' := by
  have HB := Aside0.mk (Below.refl w.heap.size w)
  have H : ((ip_Bit.f a0 a2).bind fun t7101 => ((virgateref01_Bit.f k a0 a2).bind fun t7102 => (if (t7101 == t7102) = true then ((ip_Lead.f k a0 a1).bind fun t7103 => ((virgateref01_Lead.f k a0 a1).bind fun t7104 => (if t7103 = t7104 then ((virgatelaw01_awake.f).bind fun t7105 => (some t7105)) else (some false)))) else (some false)))) = some r := h
  clear h
  replace H := Option.bind_eq_some_iff.mp H
  obtain ⟨t7101, A40, H⟩ := H
  replace H : ((virgateref01_Bit.f k a0 a2).bind fun t7102 => (if (t7101 == t7102) = true then ((ip_Lead.f k a0 a1).bind fun t7103 => ((virgateref01_Lead.f k a0 a1).bind fun t7104 => (if t7103 = t7104 then ((virgatelaw01_awake.f).bind fun t7105 => (some t7105)) else (some false)))) else (some false))) = some r := H
  have A4 := Aside0.mk A40
  clear A40
  replace H := Option.bind_eq_some_iff.mp H
  obtain ⟨t7102, A50, H⟩ := H
  replace H : (if (t7101 == t7102) = true then ((ip_Lead.f k a0 a1).bind fun t7103 => ((virgateref01_Lead.f k a0 a1).bind fun t7104 => (if t7103 = t7104 then ((virgatelaw01_awake.f).bind fun t7105 => (some t7105)) else (some false)))) else (some false)) = some r := H
  have A5 := Aside0.mk A50
  clear A50
  by_cases c6 : (t7101 == t7102) = true
  · rw [if_pos c6] at H
    have c6b0 : (t7101 == t7102) = true := c6
    (try (have c6b1 : decide (t7101 = t7102) = true := by simpa using c6))
    (try (have c6b2 : (t7101 == t7102) = true := by simpa using c6))
    clear c6
    replace H := Option.bind_eq_some_iff.mp H
    obtain ⟨t7103, A70, H⟩ := H
    replace H : ((virgateref01_Lead.f k a0 a1).bind fun t7104 => (if t7103 = t7104 then ((virgatelaw01_awake.f).bind fun t7105 => (some t7105)) else (some false))) = some r := H
    have A7 := Aside0.mk A70
    clear A70
    replace H := Option.bind_eq_some_iff.mp H
    obtain ⟨t7104, A80, H⟩ := H
    replace H : (if t7103 = t7104 then ((virgatelaw01_awake.f).bind fun t7105 => (some t7105)) else (some false)) = some r := H
    have A8 := Aside0.mk A80
    clear A80
    by_cases c9 : t7103 = t7104
    · rw [if_pos c9] at H
      have c9b0 : (t7103 == t7104) = true := beq_iff_eq.mpr c9
      have c9b1 : (t7103 != t7104) = false := bne_eq_false_iff_eq.mpr c9
      clear c9
      replace H := Option.bind_eq_some_iff.mp H
      obtain ⟨t7105, A100, H⟩ := H
      replace H : (some t7105) = some r := H
      have A10 := Aside0.mk A100
      clear A100
      obtain rfl := Option.some.inj H
      go_enter Tryd.func7, Tryd.ntmps7
      go_wp2_with (first | ((with_reducible refine gate_callee (f := 28) rfl ?_); refine goesL_ (some 9) rfl rfl Tryd.func28 (by kernel_rfl) rfl #[.int .u32 a0, .int .i64 a2] rfl (by (try simp only [List.map_toArray, List.map_cons, List.map_nil]); first | done | rfl | (simp only [List.length_drop, List.length_take]; rfl)) ?_; (with_reducible refine (ip_Bit.calls a0 a2 t7101 _ A4.out).mono ?_); rintro e w' ⟨rfl, ⟨nd, rfl⟩⟩; refine ⟨_, rfl, ?_⟩) | ((with_reducible refine gate_callee (f := 29) rfl ?_); refine goesL_ (some 12) rfl rfl Tryd.func29 (by kernel_rfl) rfl #[.int .u32 a0, .int .i64 a2] rfl (by (try simp only [List.map_toArray, List.map_cons, List.map_nil]); first | done | rfl | (simp only [List.length_drop, List.length_take]; rfl)) ?_; (with_reducible refine (virgateref01_Bit.calls k a0 a2 t7102 _ A5.out).mono ?_); rintro e w' ⟨rfl, ⟨nd, rfl⟩⟩; refine ⟨_, rfl, ?_⟩) | (go_at_call 30; (with_reducible refine (ip_Lead.calls k a0 a1 t7103 _ A7.out).mono ?_); rintro e w' ⟨rfl, ⟨nd, rfl⟩⟩) | (go_at_call 31; (with_reducible refine (virgateref01_Lead.calls k a0 a1 t7104 _ A8.out).mono ?_); rintro e w' ⟨rfl, ⟨nd, rfl⟩⟩) | (go_at_call 21; (with_reducible refine (virgatelaw01_awake.calls  t7105 _ A10.out).mono ?_); rintro e w11 ⟨rfl, hb⟩; have n0_ := Aside0.mk (below_step (by repeat (first | (with_reducible first | exact HB.out | apply below_alloc | apply pw_below_drewN | apply below_drew1) | exact HB.out)) hb); clear HB; have HB := n0_; clear n0_; (try clear hb); (try clear hb2); (try clear hk); (try clear hi)))
      go_ret
      exact ⟨by first | rfl | (simp [errW_none, errW_some] <;> rfl) | (simp [*, errW_none, errW_some] <;> rfl), by repeat (first | (with_reducible first | exact HB.out | apply below_alloc | apply pw_below_drewN | apply below_drew1) | exact HB.out)⟩
    · rw [if_neg c9] at H
      have c9b0 : (t7103 == t7104) = false := beq_eq_false_iff_ne.mpr c9
      have c9b1 : (t7103 != t7104) = true := bne_iff_ne.mpr c9
      obtain rfl := Option.some.inj H
      go_enter Tryd.func7, Tryd.ntmps7
      go_wp2_with (first | ((with_reducible refine gate_callee (f := 28) rfl ?_); refine goesL_ (some 9) rfl rfl Tryd.func28 (by kernel_rfl) rfl #[.int .u32 a0, .int .i64 a2] rfl (by (try simp only [List.map_toArray, List.map_cons, List.map_nil]); first | done | rfl | (simp only [List.length_drop, List.length_take]; rfl)) ?_; (with_reducible refine (ip_Bit.calls a0 a2 t7101 _ A4.out).mono ?_); rintro e w' ⟨rfl, ⟨nd, rfl⟩⟩; refine ⟨_, rfl, ?_⟩) | ((with_reducible refine gate_callee (f := 29) rfl ?_); refine goesL_ (some 12) rfl rfl Tryd.func29 (by kernel_rfl) rfl #[.int .u32 a0, .int .i64 a2] rfl (by (try simp only [List.map_toArray, List.map_cons, List.map_nil]); first | done | rfl | (simp only [List.length_drop, List.length_take]; rfl)) ?_; (with_reducible refine (virgateref01_Bit.calls k a0 a2 t7102 _ A5.out).mono ?_); rintro e w' ⟨rfl, ⟨nd, rfl⟩⟩; refine ⟨_, rfl, ?_⟩) | (go_at_call 30; (with_reducible refine (ip_Lead.calls k a0 a1 t7103 _ A7.out).mono ?_); rintro e w' ⟨rfl, ⟨nd, rfl⟩⟩) | (go_at_call 31; (with_reducible refine (virgateref01_Lead.calls k a0 a1 t7104 _ A8.out).mono ?_); rintro e w' ⟨rfl, ⟨nd, rfl⟩⟩))
      go_ret
      exact ⟨by first | rfl | (simp [errW_none, errW_some] <;> rfl) | (simp [*, errW_none, errW_some] <;> rfl), by repeat (first | (with_reducible first | exact HB.out | apply below_alloc | apply pw_below_drewN | apply below_drew1) | exact HB.out)⟩
  · rw [if_neg c6] at H
    have c6b0 : (t7101 == t7102) = false := by simpa using c6
    (try (have c6b1 : decide (t7101 = t7102) = false := by simpa using c6))
    (try (have c6b2 : (t7101 == t7102) = false := by simpa using c6))
    (try (have c6b3 : ¬ (t7101 = t7102) := by simpa using c6))
    clear c6
    obtain rfl := Option.some.inj H
    go_enter Tryd.func7, Tryd.ntmps7
    go_wp2_with (first | ((with_reducible refine gate_callee (f := 28) rfl ?_); refine goesL_ (some 9) rfl rfl Tryd.func28 (by kernel_rfl) rfl #[.int .u32 a0, .int .i64 a2] rfl (by (try simp only [List.map_toArray, List.map_cons, List.map_nil]); first | done | rfl | (simp only [List.length_drop, List.length_take]; rfl)) ?_; (with_reducible refine (ip_Bit.calls a0 a2 t7101 _ A4.out).mono ?_); rintro e w' ⟨rfl, ⟨nd, rfl⟩⟩; refine ⟨_, rfl, ?_⟩) | ((with_reducible refine gate_callee (f := 29) rfl ?_); refine goesL_ (some 12) rfl rfl Tryd.func29 (by kernel_rfl) rfl #[.int .u32 a0, .int .i64 a2] rfl (by (try simp only [List.map_toArray, List.map_cons, List.map_nil]); first | done | rfl | (simp only [List.length_drop, List.length_take]; rfl)) ?_; (with_reducible refine (virgateref01_Bit.calls k a0 a2 t7102 _ A5.out).mono ?_); rintro e w' ⟨rfl, ⟨nd, rfl⟩⟩; refine ⟨_, rfl, ?_⟩))
    go_ret
    exact ⟨by first | rfl | (simp [errW_none, errW_some] <;> rfl) | (simp [*, errW_none, errW_some] <;> rfl), by repeat (first | (with_reducible first | exact HB.out | apply below_alloc | apply pw_below_drewN | apply below_drew1) | exact HB.out)⟩

end Go.Proofs.YtcdopgkkieenjaaDoor.V
end

