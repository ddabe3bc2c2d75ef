/- The law ViewApart for every input: texts of ours, put together (part 9 of 16). No further condition. -/
import Derived.Test.YtndddnglapkplaaGreatDoorCViewApartx2
import Derived.Test.YtndddnglapkplaaGreatDoorCViewApartx5
import Derived.Test.YtndddnglapkplaaGreatDoorCViewApartx3
import Derived.Test.YtndddnglapkplaaGreatDoorCViewApartx7
import Derived.Test.YtndddnglapkplaaGreatDoorCViewApartx4
import Derived.Outline
set_option linter.unusedVariables false
set_option linter.unusedSimpArgs false
open Go.RowKit Go.Proofs.YtndddnglapkplaaGreatDoorW.PrintWords Go.Proofs.YtndddnglapkplaaGreatDoorW.PrintLast Go.Proofs.YtndddnglapkplaaGreatDoorW.PrintMore Go.Proofs.YtndddnglapkplaaGreatDoor.Z
section
namespace Go.Proofs.YtndddnglapkplaaGreatDoor.V
attribute [local go_sem] bI bG bP bO bw bu bH bF
def lZ.f (aH : Int) (aC : Int) : Option (Int) := (db.f aH aC).bind fun qt => (if qt = true then (if 0 ≤ (wrap64 (32 - aC)) then (some (shl .i64 1 (wrap64 (32 - aC)))) else (none)) else (some 0))
set_option maxHeartbeats 8000000 in
set_option maxRecDepth 100000 in
theorem lZ.calls (aH : Int) (aC : Int) (r : Int) (w : World) (h : lZ.f aH aC = some r) :
  Calls Tryz.prog 51 #[.agg #[.int .u32 aH, .int .i64 aC]] w fun e w' => e = .returned (.int .i64 r) ∧ Below w.heap.size w w' := by
 have uH := Tryz.underlying67
 have HB := ak (Below.refl w.heap.size w)
 have H : ((db.f aH aC).bind fun qt => (if qt = true then (if 0 ≤ (wrap64 (32 - aC)) then (some (shl .i64 1 (wrap64 (32 - aC)))) else (none)) else (some 0))) = some r := h
 clear h
 replace H := Option.bind_eq_some_iff.mp H
 obtain ⟨qt, ek, H⟩ := H
 replace H : (if qt = true then (if 0 ≤ (wrap64 (32 - aC)) then (some (shl .i64 1 (wrap64 (32 - aC)))) else (none)) else (some 0)) = some r := H
 have A2 := ak ek
 clear ek
 by_cases c3 : qt = true
 ·subst c3
  have H1 : (if 0 ≤ (wrap64 (32 - aC)) then (some (shl .i64 1 (wrap64 (32 - aC)))) else (none)) = some r := by rw [if_pos rfl] at H; exact H
  clear H
  have H := H1
  clear H1
  obtain ⟨oX, zg⟩ : ∃ j_ : Int, (wrap64 (32 - aC)) = j_ := ⟨_, rfl⟩
  replace H : (if 0 ≤ (oX) then (some (shl .i64 1 (oX))) else (none)) = some r := by first | (rw [zg] at H; exact H) | (simp only [zg] at H ⊢; exact H)
  (try rw [zg] at A2)
  have WM : (IntKind.i64.wrap (32 - aC)) = oX := (cp _).trans zg
  by_cases c5 : 0 ≤ (oX)
  ·rw [if_pos c5] at H
   have mb := eq_true c5
   have sS : decide (0 ≤ (oX)) = true := decide_eq_true c5
   clear c5
   obtain ⟨sv, nk⟩ : ∃ j_ : Int, (shl .i64 1 (oX)) = j_ := ⟨_, rfl⟩
   replace H : (some sv) = some r := by first | (rw [nk] at H; exact H) | (simp only [nk] at H ⊢; exact H)
   (try rw [nk] at A2)
   have C7 : (IntKind.i64.wrap (1 * 2 ^ min (oX).toNat 64)) = sv := nk
   have C6 : (oX) ≤ 64 → (IntKind.i64.wrap (1 * 2 ^ (oX).toNat)) = sv := xt nk
   have WL : (IntKind.i64.wrap (2 ^ min (oX).toNat 64)) = sv := by have h_ := C7; rw [Int.one_mul] at h_; exact h_
   have WK : (oX) ≤ 64 → (IntKind.i64.wrap (2 ^ (oX).toNat)) = sv := fun Gp => by have h_ := C6 Gp; rw [Int.one_mul] at h_; exact h_
   have WI : (wrap64 (1 * 2 ^ min (oX).toNat 64)) = sv := (cp _).symm.trans C7
   have WJ : (oX) ≤ 64 → (wrap64 (1 * 2 ^ (oX).toNat)) = sv := fun h_ => (cp _).symm.trans (C6 h_)
   obtain rfl := Option.some.inj H
   go_enter Tryz.func51, Tryz.ntmps51
   go_wp2_with (first | ((with_reducible refine aA (N := 1) rfl ?_); refine bl ?hg (N := 1) ?hd (cs := #[.int .u32 aH, .int .i64 aC]) (t := 67) ?hr ?_; (case hd => rfl); (case hg => rfl); (case hr => first | (go_simp; done) | (go_simp; rfl)); intro iG hg w7 hbox hb; have av := ak (au (by repeat (first | (with_reducible first | exact HB.out | apply aa | apply J | apply ab) | exact HB.out)) hb); have az := ak (hbox); have aR := ak ((by rw [hg]; exact (ay (by repeat (first | (with_reducible first | exact HB.out | apply aa | apply J | apply ab) | exact HB.out))) : w.heap.size ≤ iG)); have bp := ak ((by rw [hg]; exact (ay (by repeat (first | (with_reducible first | exact HB.out | apply aa | apply J | apply ab) | exact HB.out))) : w.heap.size ≤ iG)); clear HB; have HB := av; have fp := az; have KE := aR; have rf := bp; clear av az aR bp; clear hb hbox hg; have vT : w7.cell? ⟨iG, 0, none⟩ = some (.int .u32 aH) := (aj fp.out 0).trans rfl; have vS : w7.cell? ⟨iG, 1, none⟩ = some (.int .i64 aC) := (aj fp.out 1).trans rfl; have vR := ah fp.out 0; have vQ := ah fp.out 1) | ((with_reducible refine aD (f := 75) rfl ?_); refine bg (some 4) rfl rfl Tryz.func75 (by kernel_rfl) rfl #[.agg #[.int .u32 aH, .int .i64 aC]] rfl (by (try simp only [List.map_toArray, List.map_cons, List.map_nil]); first | done | rfl | (simp only [List.length_drop, List.length_take]; rfl)) ?_; (with_reducible refine (db.calls aH aC true _ A2.out).mono ?_); rintro e w9 ⟨rfl, hb⟩; refine ⟨_, rfl, ?_⟩; have av := ak (aU (g := iG) (o := .cells #[.int .u32 aH, .int .i64 aC] 67 (0, 0)) (by (with_reducible repeat (first | refine ae ?_ _ | refine ag ?_ | refine af ?_ _)); exact fp.out) hb); have az := ak (au (by repeat (first | (with_reducible first | exact HB.out | apply aa | apply J | apply ab | refine ai ?_ rf.out) | exact HB.out)) hb); clear fp; clear HB; have fp := av; have HB := az; clear av az; (try clear hb); (try clear bC); (try clear hk); (try clear hi); have wS : w9.cell? ⟨iG, 0, none⟩ = some (.int .u32 aH) := (aj fp.out 0).trans rfl; have wR : w9.cell? ⟨iG, 1, none⟩ = some (.int .i64 aC) := (aj fp.out 1).trans rfl; have wO := ah fp.out 0; have wN := ah fp.out 1))
   go_ret
   exact ⟨by first | rfl | (simp [aq, ao] <;> rfl) | (simp only [← zg, ← nk]; first | rfl | (simp [aq, ao] <;> rfl)) | (simp [*, aq, ao] <;> rfl), by repeat (first | (with_reducible first | exact HB.out | apply aa | apply J | apply ab | refine ai ?_ rf.out) | exact HB.out)⟩
  ·rw [if_neg c5] at H
   exact absurd H (by simp)
 ·replace c3 := Bool.eq_false_iff.mpr c3
  subst c3
  have H1 : (some 0) = some r := by rw [if_neg (show ¬ (false = true) by decide)] at H; exact H
  clear H
  have H := H1
  clear H1
  obtain rfl := Option.some.inj H
  go_enter Tryz.func51, Tryz.ntmps51
  go_wp2_with (first | ((with_reducible refine aA (N := 1) rfl ?_); refine bl ?hg (N := 1) ?hd (cs := #[.int .u32 aH, .int .i64 aC]) (t := 67) ?hr ?_; (case hd => rfl); (case hg => rfl); (case hr => first | (go_simp; done) | (go_simp; rfl)); intro iG hg rQ hbox hb; have av := ak (au (by repeat (first | (with_reducible first | exact HB.out | apply aa | apply J | apply ab) | exact HB.out)) hb); have az := ak (hbox); have aR := ak ((by rw [hg]; exact (ay (by repeat (first | (with_reducible first | exact HB.out | apply aa | apply J | apply ab) | exact HB.out))) : w.heap.size ≤ iG)); have bp := ak ((by rw [hg]; exact (ay (by repeat (first | (with_reducible first | exact HB.out | apply aa | apply J | apply ab) | exact HB.out))) : w.heap.size ≤ iG)); clear HB; have HB := av; have fp := az; have KE := aR; have rf := bp; clear av az aR bp; clear hb hbox hg; have wQ : rQ.cell? ⟨iG, 0, none⟩ = some (.int .u32 aH) := (aj fp.out 0).trans rfl; have wP : rQ.cell? ⟨iG, 1, none⟩ = some (.int .i64 aC) := (aj fp.out 1).trans rfl; have wM := ah fp.out 0; have wL := ah fp.out 1) | ((with_reducible refine aD (f := 75) rfl ?_); refine bg (some 4) rfl rfl Tryz.func75 (by kernel_rfl) rfl #[.agg #[.int .u32 aH, .int .i64 aC]] rfl (by (try simp only [List.map_toArray, List.map_cons, List.map_nil]); first | done | rfl | (simp only [List.length_drop, List.length_take]; rfl)) ?_; (with_reducible refine (db.calls aH aC false _ A2.out).mono ?_); rintro e oJ ⟨rfl, hb⟩; refine ⟨_, rfl, ?_⟩; have av := ak (aU (g := iG) (o := .cells #[.int .u32 aH, .int .i64 aC] 67 (0, 0)) (by (with_reducible repeat (first | refine ae ?_ _ | refine ag ?_ | refine af ?_ _)); exact fp.out) hb); have az := ak (au (by repeat (first | (with_reducible first | exact HB.out | apply aa | apply J | apply ab | refine ai ?_ rf.out) | exact HB.out)) hb); clear fp; clear HB; have fp := av; have HB := az; clear av az; (try clear hb); (try clear bC); (try clear hk); (try clear hi)))
  go_ret
  exact ⟨by first | rfl | (simp [aq, ao] <;> rfl) | (simp [*, aq, ao] <;> rfl), by repeat (first | (with_reducible first | exact HB.out | apply aa | apply J | apply ab | refine ai ?_ rf.out) | exact HB.out)⟩
end Go.Proofs.YtndddnglapkplaaGreatDoor.V
end

section
namespace Go.Proofs.YtndddnglapkplaaGreatDoor.V
attribute [local go_sem] bI bG bP bO bw bu bH bF
def stringslite_HasPrefix.f (a0 : ByteArray) (a1 : ByteArray) : Option (Bool) := if (a0.size : Int) ≥ (a1.size : Int) then (if 0 ≤ (a1.size : Int) then (if (a1.size : Int) ≤ (a0.size : Int) then (some ((a0.extract 0 ((a1.size : Int) : Int).toNat).toList == a1.toList)) else (none)) else (none)) else (some false)
set_option maxHeartbeats 8000000 in
set_option maxRecDepth 100000 in
theorem stringslite_HasPrefix.calls (a0 : ByteArray) (a1 : ByteArray) (r : Bool) (w : World) (h : stringslite_HasPrefix.f a0 a1 = some r) :
  Calls Tryz.prog 122 #[.string a0, .string a1] w fun e w' => e = .returned (.bool r) ∧ Drawn0 w w' := by
 have H : (if (a0.size : Int) ≥ (a1.size : Int) then (if 0 ≤ (a1.size : Int) then (if (a1.size : Int) ≤ (a0.size : Int) then (some ((a0.extract 0 ((a1.size : Int) : Int).toNat).toList == a1.toList)) else (none)) else (none)) else (some false)) = some r := h
 clear h
 by_cases c3 : (a0.size : Int) ≥ (a1.size : Int)
 ·rw [if_pos c3] at H
  have gw : decide ((a1.size : Int) ≤ (a0.size : Int)) = true := decide_eq_true c3
  have zT : decide (a1.size ≤ a0.size) = true := decide_eq_true (Int.ofNat_le.mp c3)
  clear c3
  by_cases c4 : 0 ≤ (a1.size : Int)
  ·rw [if_pos c4] at H
   have fj := eq_true c4
   have sU : decide (0 ≤ (a1.size : Int)) = true := decide_eq_true c4
   clear c4
   by_cases c5 : (a1.size : Int) ≤ (a0.size : Int)
   ·rw [if_pos c5] at H
    have mb := eq_true c5
    have sS : decide ((a1.size : Int) ≤ (a0.size : Int)) = true := decide_eq_true c5
    clear c5
    obtain rfl := Option.some.inj H
    go_enter Tryz.func122, Tryz.ntmps122
    go_wp2
    go_ret
    exact ⟨by first | rfl | (simp; done) | (simp [*]; done), by repeat (first | exact Drawn0.refl _ | apply Drawn0.step)⟩
   ·rw [if_neg c5] at H
    exact absurd H (by simp)
  ·rw [if_neg c4] at H
   exact absurd H (by simp)
 ·rw [if_neg c3] at H
  have gw : decide ((a1.size : Int) ≤ (a0.size : Int)) = false := decide_eq_false c3
  have zT : decide (a1.size ≤ a0.size) = false := decide_eq_false (fun h => c3 (Int.ofNat_le.mpr h))
  clear c3
  obtain rfl := Option.some.inj H
  go_enter Tryz.func122, Tryz.ntmps122
  go_wp2
  go_ret
  exact ⟨by first | rfl | (simp; done) | (simp [*]; done), by repeat (first | exact Drawn0.refl _ | apply Drawn0.step)⟩
end Go.Proofs.YtndddnglapkplaaGreatDoor.V
end

section
namespace Go.Proofs.YtndddnglapkplaaGreatDoor.V
attribute [local go_sem] bI bG bP bO bw bu bH bF
def stringslite_CutPrefix.f (a0 : ByteArray) (a1 : ByteArray) : Option (ByteArray × Bool) := (stringslite_HasPrefix.f a0 a1).bind fun ox => (if ox = true then (if 0 ≤ (a1.size : Int) then (if (a1.size : Int) ≤ (a0.size : Int) then (some (a0.extract ((a1.size : Int) : Int).toNat a0.size, true)) else (none)) else (none)) else (some (a0, false)))
set_option maxHeartbeats 8000000 in
set_option maxRecDepth 100000 in
theorem stringslite_CutPrefix.calls (a0 : ByteArray) (a1 : ByteArray) (r1 : ByteArray) (r2 : Bool) (w : World) (h : stringslite_CutPrefix.f a0 a1 = some (r1, r2)) :
  Calls Tryz.prog 110 #[.string a0, .string a1] w fun e w' => e = .returned (.tuple #[.string r1, .bool r2]) ∧ Drawn0 w w' := by
 have H : ((stringslite_HasPrefix.f a0 a1).bind fun ox => (if ox = true then (if 0 ≤ (a1.size : Int) then (if (a1.size : Int) ≤ (a0.size : Int) then (some (a0.extract ((a1.size : Int) : Int).toNat a0.size, true)) else (none)) else (none)) else (some (a0, false)))) = some (r1, r2) := h
 clear h
 replace H := Option.bind_eq_some_iff.mp H
 obtain ⟨ox, hG, H⟩ := H
 replace H : (if ox = true then (if 0 ≤ (a1.size : Int) then (if (a1.size : Int) ≤ (a0.size : Int) then (some (a0.extract ((a1.size : Int) : Int).toNat a0.size, true)) else (none)) else (none)) else (some (a0, false))) = some (r1, r2) := H
 have A3 := ak hG
 clear hG
 by_cases c4 : ox = true
 ·subst c4
  have H1 : (if 0 ≤ (a1.size : Int) then (if (a1.size : Int) ≤ (a0.size : Int) then (some (a0.extract ((a1.size : Int) : Int).toNat a0.size, true)) else (none)) else (none)) = some (r1, r2) := by rw [if_pos rfl] at H; exact H
  clear H
  have H := H1
  clear H1
  by_cases c5 : 0 ≤ (a1.size : Int)
  ·rw [if_pos c5] at H
   have mb := eq_true c5
   have sS : decide (0 ≤ (a1.size : Int)) = true := decide_eq_true c5
   clear c5
   by_cases c6 : (a1.size : Int) ≤ (a0.size : Int)
   ·rw [if_pos c6] at H
    have jq := eq_true c6
    have uO : decide ((a1.size : Int) ≤ (a0.size : Int)) = true := decide_eq_true c6
    clear c6
    simp only [Option.some.injEq, Prod.mk.injEq] at H
    obtain ⟨rfl, rfl⟩ := H
    go_enter Tryz.func110, Tryz.ntmps110
    go_wp2_with (first | ((with_reducible refine aD (f := 122) rfl ?_); refine bg (some 8) rfl rfl Tryz.func122 (by kernel_rfl) rfl #[.string a0, .string a1] rfl (by (try simp only [List.map_toArray, List.map_cons, List.map_nil]); first | done | rfl | (simp only [List.length_drop, List.length_take]; rfl)) ?_; (with_reducible refine (stringslite_HasPrefix.calls a0 a1 true _ A3.out).mono ?_); rintro e w' ⟨rfl, ⟨nd, rfl⟩⟩; refine ⟨_, rfl, ?_⟩))
    go_ret2
    exact ⟨by first | rfl | (simp; done) | (simp [*]; done), by repeat (first | exact Drawn0.refl _ | apply Drawn0.step)⟩
   ·rw [if_neg c6] at H
    exact absurd H (by simp)
  ·rw [if_neg c5] at H
   exact absurd H (by simp)
 ·replace c4 := Bool.eq_false_iff.mpr c4
  subst c4
  have H1 : (some (a0, false)) = some (r1, r2) := by rw [if_neg (show ¬ (false = true) by decide)] at H; exact H
  clear H
  have H := H1
  clear H1
  simp only [Option.some.injEq, Prod.mk.injEq] at H
  obtain ⟨rfl, rfl⟩ := H
  go_enter Tryz.func110, Tryz.ntmps110
  go_wp2_with (first | ((with_reducible refine aD (f := 122) rfl ?_); refine bg (some 8) rfl rfl Tryz.func122 (by kernel_rfl) rfl #[.string a0, .string a1] rfl (by (try simp only [List.map_toArray, List.map_cons, List.map_nil]); first | done | rfl | (simp only [List.length_drop, List.length_take]; rfl)) ?_; (with_reducible refine (stringslite_HasPrefix.calls a0 a1 false _ A3.out).mono ?_); rintro e w' ⟨rfl, ⟨nd, rfl⟩⟩; refine ⟨_, rfl, ?_⟩))
  go_ret2
  exact ⟨by first | rfl | (simp; done) | (simp [*]; done), by repeat (first | exact Drawn0.refl _ | apply Drawn0.step)⟩
end Go.Proofs.YtndddnglapkplaaGreatDoor.V
end

section
namespace Go.Proofs.YtndddnglapkplaaGreatDoor.V
attribute [local go_sem] bI bG bP bO bw bu bH bF
def strings_CutPrefix.f (a0 : ByteArray) (a1 : ByteArray) : Option (ByteArray × Bool) := (stringslite_CutPrefix.f a0 a1).bind fun qR => (some (qR.1, qR.2))
set_option maxHeartbeats 8000000 in
set_option maxRecDepth 100000 in
theorem strings_CutPrefix.calls (a0 : ByteArray) (a1 : ByteArray) (r1 : ByteArray) (r2 : Bool) (w : World) (h : strings_CutPrefix.f a0 a1 = some (r1, r2)) :
  Calls Tryz.prog 81 #[.string a0, .string a1] w fun e w' => e = .returned (.tuple #[.string r1, .bool r2]) ∧ Drawn0 w w' := by
 have H : ((stringslite_CutPrefix.f a0 a1).bind fun qR => (some (qR.1, qR.2))) = some (r1, r2) := h
 clear h
 replace H := Option.bind_eq_some_iff.mp H
 obtain ⟨⟨D0, DZ⟩, hG, H⟩ := H
 replace H : (some (D0, DZ)) = some (r1, r2) := H
 have A3 := ak hG
 clear hG
 simp only [Option.some.injEq, Prod.mk.injEq] at H
 obtain ⟨rfl, rfl⟩ := H
 go_enter Tryz.func81, Tryz.ntmps81
 go_wp2_with (first | ((with_reducible refine aD (f := 110) rfl ?_); refine bg (some 8) rfl rfl Tryz.func110 (by kernel_rfl) rfl #[.string a0, .string a1] rfl (by (try simp only [List.map_toArray, List.map_cons, List.map_nil]); first | done | rfl | (simp only [List.length_drop, List.length_take]; rfl)) ?_; (with_reducible refine (stringslite_CutPrefix.calls a0 a1 D0 DZ _ A3.out).mono ?_); rintro e w' ⟨rfl, ⟨nd, rfl⟩⟩; refine ⟨_, rfl, ?_⟩))
 go_ret2
 exact ⟨by first | rfl | (simp; done) | (simp [*]; done), by repeat (first | exact Drawn0.refl _ | apply Drawn0.step)⟩
end Go.Proofs.YtndddnglapkplaaGreatDoor.V
end

section
namespace Go.Proofs.YtndddnglapkplaaGreatDoor.V
attribute [local go_sem] bI bG bP bO bw bu bH bF
def iA.f (k : Nat) (aH : Int) (aC : Int) : Option (ByteArray) := (dP.f k aH aC).bind fun mf => ((strings_Replace.f mf (⟨#[47]⟩ : ByteArray) (⟨#[45]⟩ : ByteArray) 1).bind fun me => (some me))
set_option maxHeartbeats 8000000 in
set_option maxRecDepth 100000 in
theorem iA.calls (k : Nat) (aH : Int) (aC : Int) (r : ByteArray) (w : World) (h : iA.f k aH aC = some r) :
  Calls Tryz.prog 112 #[.agg #[.int .u32 aH, .int .i64 aC]] w fun e w' => e = .returned (.string r) ∧ Below w.heap.size w w' := by
 have uH := Tryz.underlying67
 have HB := ak (Below.refl w.heap.size w)
 have H : ((dP.f k aH aC).bind fun mf => ((strings_Replace.f mf (⟨#[47]⟩ : ByteArray) (⟨#[45]⟩ : ByteArray) 1).bind fun me => (some me))) = some r := h
 clear h
 replace H := Option.bind_eq_some_iff.mp H
 obtain ⟨mf, ek, H⟩ := H
 replace H : ((strings_Replace.f mf (⟨#[47]⟩ : ByteArray) (⟨#[45]⟩ : ByteArray) 1).bind fun me => (some me)) = some r := H
 have A2 := ak ek
 clear ek
 replace H := Option.bind_eq_some_iff.mp H
 obtain ⟨me, hG, H⟩ := H
 replace H : (some me) = some r := H
 have A3 := ak hG
 clear hG
 obtain rfl := Option.some.inj H
 go_enter Tryz.func112, Tryz.ntmps112
 go_wp2_with (first | ((with_reducible refine aA (N := 1) rfl ?_); refine bl ?hg (N := 1) ?hd (cs := #[.int .u32 aH, .int .i64 aC]) (t := 67) ?hr ?_; (case hd => rfl); (case hg => rfl); (case hr => first | (go_simp; done) | (go_simp; rfl)); intro nm hg w4 hbox hb; have av := ak (au (by repeat (first | (with_reducible first | exact HB.out | apply aa | apply J | apply ab) | exact HB.out)) hb); have az := ak (hbox); have aR := ak ((by rw [hg]; exact (ay (by repeat (first | (with_reducible first | exact HB.out | apply aa | apply J | apply ab) | exact HB.out))) : w.heap.size ≤ nm)); have bp := ak ((by rw [hg]; exact (ay (by repeat (first | (with_reducible first | exact HB.out | apply aa | apply J | apply ab) | exact HB.out))) : w.heap.size ≤ nm)); clear HB; have HB := av; have jr := az; have QY := aR; have uU := bp; clear av az aR bp; clear hb hbox hg; have Vf : w4.cell? ⟨nm, 0, none⟩ = some (.int .u32 aH) := (aj jr.out 0).trans rfl; have Ve : w4.cell? ⟨nm, 1, none⟩ = some (.int .i64 aC) := (aj jr.out 1).trans rfl; have U1 := ah jr.out 0; have U0 := ah jr.out 1) | ((with_reducible refine aD (f := 124) rfl ?_); refine bg (some 4) rfl rfl Tryz.func124 (by kernel_rfl) rfl #[.agg #[.int .u32 aH, .int .i64 aC]] rfl (by (try simp only [List.map_toArray, List.map_cons, List.map_nil]); first | done | rfl | (simp only [List.length_drop, List.length_take]; rfl)) ?_; (with_reducible refine (dP.calls k aH aC mf _ A2.out).mono ?_); rintro e w6 ⟨rfl, hb⟩; refine ⟨_, rfl, ?_⟩; have av := ak (aU (g := nm) (o := .cells #[.int .u32 aH, .int .i64 aC] 67 (0, 0)) (by (with_reducible repeat (first | refine ae ?_ _ | refine ag ?_ | refine af ?_ _)); exact jr.out) hb); have az := ak (au (by repeat (first | (with_reducible first | exact HB.out | apply aa | apply J | apply ab | refine ai ?_ uU.out) | exact HB.out)) hb); clear jr; clear HB; have jr := av; have HB := az; clear av az; (try clear hb); (try clear bC); (try clear hk); (try clear hi)) | ((with_reducible refine aD (f := 125) rfl ?_); refine bg (some 5) rfl rfl Tryz.func125 (by kernel_rfl) rfl #[.string mf, .string (⟨#[47]⟩ : ByteArray), .string (⟨#[45]⟩ : ByteArray), .int .i64 1] rfl (by (try simp only [List.map_toArray, List.map_cons, List.map_nil]); first | done | rfl | (simp only [List.length_drop, List.length_take]; rfl)) ?_; (with_reducible refine (strings_Replace.calls mf (⟨#[47]⟩ : ByteArray) (⟨#[45]⟩ : ByteArray) 1 me _ A3.out).mono ?_); rintro e w7 ⟨rfl, hb⟩; refine ⟨_, rfl, ?_⟩; have av := ak (aU (g := nm) (o := .cells #[.int .u32 aH, .int .i64 aC] 67 (0, 0)) (by (with_reducible repeat (first | refine ae ?_ _ | refine ag ?_ | refine af ?_ _)); exact jr.out) hb); have az := ak (au (by repeat (first | (with_reducible first | exact HB.out | apply aa | apply J | apply ab | refine ai ?_ uU.out) | exact HB.out)) hb); clear jr; clear HB; have jr := av; have HB := az; clear av az; (try clear hb); (try clear bC); (try clear hk); (try clear hi)))
 go_ret
 exact ⟨by first | rfl | (simp [aq, ao] <;> rfl) | (simp [*, aq, ao] <;> rfl), by repeat (first | (with_reducible first | exact HB.out | apply aa | apply J | apply ab | refine ai ?_ uU.out) | exact HB.out)⟩
end Go.Proofs.YtndddnglapkplaaGreatDoor.V
end

section
namespace Go.Proofs.YtndddnglapkplaaGreatDoor.V
attribute [local go_sem] bI bG bP bO bw bu bH bF
def dV.f (k : Nat) (a0 : ByteArray) : Option (Int × Int × Bool) := (strings_Cut.f a0 (⟨#[45]⟩ : ByteArray)).bind fun jL => (if jL.1.size + 1 ≤ 9223372036854775807 then (if (jL.1 ++ (⟨#[47]⟩ : ByteArray)).size + jL.2.1.size ≤ 9223372036854775807 then ((gu.f ((jL.1 ++ (⟨#[47]⟩ : ByteArray)) ++ jL.2.1)).bind fun fS => (if fS.2.2 = 0 then ((iA.f k fS.1 fS.2.1).bind fun ik => (if ik.toList = a0.toList then (some (fS.1, fS.2.1, true)) else (some (0, 0, false)))) else (some (0, 0, false)))) else (none)) else (none))
set_option maxHeartbeats 8000000 in
set_option maxRecDepth 100000 in
theorem dV.calls (k : Nat) (a0 : ByteArray) (r1 : Int) (r2 : Int) (r3 : Bool) (w : World) (h : dV.f k a0 = some (r1, r2, r3)) :
  Calls Tryz.prog 82 #[.string a0] w fun e w' => e = .returned (.tuple #[.agg #[.int .u32 r1, .int .i64 r2], .bool r3]) ∧ Below w.heap.size w w' := by
 have uH := Tryz.underlying67
 have HB := ak (Below.refl w.heap.size w)
 have H : ((strings_Cut.f a0 (⟨#[45]⟩ : ByteArray)).bind fun jL => (if jL.1.size + 1 ≤ 9223372036854775807 then (if (jL.1 ++ (⟨#[47]⟩ : ByteArray)).size + jL.2.1.size ≤ 9223372036854775807 then ((gu.f ((jL.1 ++ (⟨#[47]⟩ : ByteArray)) ++ jL.2.1)).bind fun fS => (if fS.2.2 = 0 then ((iA.f k fS.1 fS.2.1).bind fun ik => (if ik.toList = a0.toList then (some (fS.1, fS.2.1, true)) else (some (0, 0, false)))) else (some (0, 0, false)))) else (none)) else (none))) = some (r1, r2, r3) := h
 clear h
 replace H := Option.bind_eq_some_iff.mp H
 obtain ⟨⟨gf, iJ, yG⟩, ek, H⟩ := H
 replace H : (if gf.size + 1 ≤ 9223372036854775807 then (if (gf ++ (⟨#[47]⟩ : ByteArray)).size + iJ.size ≤ 9223372036854775807 then ((gu.f ((gf ++ (⟨#[47]⟩ : ByteArray)) ++ iJ)).bind fun fS => (if fS.2.2 = 0 then ((iA.f k fS.1 fS.2.1).bind fun ik => (if ik.toList = a0.toList then (some (fS.1, fS.2.1, true)) else (some (0, 0, false)))) else (some (0, 0, false)))) else (none)) else (none)) = some (r1, r2, r3) := H
 have A2 := ak ek
 clear ek
 by_cases c3 : gf.size + 1 ≤ 9223372036854775807
 ·rw [if_pos c3] at H
  have gw := eq_true c3
  have zT : decide (gf.size + 1 ≤ 9223372036854775807) = true := decide_eq_true c3
  try have QQ : (9223372036854775807 < gf.size + 1) = False := eq_false (Nat.not_lt.2 c3)
  by_cases c4 : (gf ++ (⟨#[47]⟩ : ByteArray)).size + iJ.size ≤ 9223372036854775807
  ·rw [if_pos c4] at H
   have fj := eq_true c4
   have sU : decide ((gf ++ (⟨#[47]⟩ : ByteArray)).size + iJ.size ≤ 9223372036854775807) = true := decide_eq_true c4
   try have QP : (9223372036854775807 < (gf ++ (⟨#[47]⟩ : ByteArray)).size + iJ.size) = False := eq_false (Nat.not_lt.2 c4)
   try have QO : ¬ 9223372036854775807 < gf.size + 1 + iJ.size := by have h_ := c4; simp only [ByteArray.size_append] at h_; exact Nat.not_lt.2 h_
   try have XB := eq_false QO
   replace H := Option.bind_eq_some_iff.mp H
   obtain ⟨⟨iI, kg, mJ⟩, qa, H⟩ := H
   replace H : (if mJ = 0 then ((iA.f k iI kg).bind fun ik => (if ik.toList = a0.toList then (some (iI, kg, true)) else (some (0, 0, false)))) else (some (0, 0, false))) = some (r1, r2, r3) := H
   have A5 := ak qa
   clear qa
   by_cases c6 : mJ = 0
   ·rw [if_pos c6] at H
    have jq : (mJ == 0) = true := beq_iff_eq.mpr c6
    have uO : (mJ != 0) = false := bne_eq_false_iff_eq.mpr c6
    clear c6
    replace H := Option.bind_eq_some_iff.mp H
    obtain ⟨ik, pY, H⟩ := H
    replace H : (if ik.toList = a0.toList then (some (iI, kg, true)) else (some (0, 0, false))) = some (r1, r2, r3) := H
    have A7 := ak pY
    clear pY
    by_cases c8 : ik.toList = a0.toList
    ·rw [if_pos c8] at H
     have ma : (ik.toList == a0.toList) = true := beq_iff_eq.mpr c8
     have rK : (ik.toList != a0.toList) = false := bne_eq_false_iff_eq.mpr c8
     clear c8
     simp only [Option.some.injEq, Prod.mk.injEq] at H
     obtain ⟨rfl, rfl, rfl⟩ := H
     go_enter Tryz.func82, Tryz.ntmps82
     go_wp2_with (first | ((with_reducible refine aA (N := 2) rfl ?_); refine bl ?hg (N := 2) ?hd (cs := #[.int .u32 0, .int .i64 0]) (t := 67) ?hr ?_; (case hd => rfl); (case hg => rfl); (case hr => first | (go_simp; done) | (go_simp; rfl)); intro cK hg w9 hbox hb; have av := ak (au (by repeat (first | (with_reducible first | exact HB.out | apply aa | apply J | apply ab) | exact HB.out)) hb); have az := ak (hbox); have aR := ak ((by rw [hg]; exact (ay (by repeat (first | (with_reducible first | exact HB.out | apply aa | apply J | apply ab) | exact HB.out))) : w.heap.size ≤ cK)); have bp := ak ((by rw [hg]; exact (ay (by repeat (first | (with_reducible first | exact HB.out | apply aa | apply J | apply ab) | exact HB.out))) : w.heap.size ≤ cK)); clear HB; have HB := av; have bK := az; have Cy := aR; have eH := bp; clear av az aR bp; clear hb hbox hg) | ((with_reducible refine aD (f := 91) rfl ?_); refine bg (some 11) rfl rfl Tryz.func91 (by kernel_rfl) rfl #[.string a0, .string (⟨#[45]⟩ : ByteArray)] rfl (by (try simp only [List.map_toArray, List.map_cons, List.map_nil]); first | done | rfl | (simp only [List.length_drop, List.length_take]; rfl)) ?_; (with_reducible refine (strings_Cut.calls a0 (⟨#[45]⟩ : ByteArray) gf iJ yG _ A2.out).mono ?_); rintro e js ⟨rfl, hb⟩; refine ⟨_, rfl, ?_⟩; have av := ak (aU (g := cK) (o := .cells #[.int .u32 0, .int .i64 0] 67 (0, 0)) (by (with_reducible repeat (first | refine ae ?_ _ | refine ag ?_ | refine af ?_ _)); exact bK.out) hb); have az := ak (au (by repeat (first | (with_reducible first | exact HB.out | apply aa | apply J | apply ab | refine ai ?_ eH.out) | exact HB.out)) hb); clear bK; clear HB; have bK := av; have HB := az; clear av az; (try clear hb); (try clear bC); (try clear hk); (try clear hi)) | ((with_reducible refine aD (f := 111) rfl ?_); refine bg (some 20) rfl rfl Tryz.func111 (by kernel_rfl) rfl #[.string ((gf ++ (⟨#[47]⟩ : ByteArray)) ++ iJ)] rfl (by (try simp only [List.map_toArray, List.map_cons, List.map_nil]); first | done | rfl | (simp only [List.length_drop, List.length_take]; rfl)) ?_; (with_reducible refine (gu.calls ((gf ++ (⟨#[47]⟩ : ByteArray)) ++ iJ) iI kg mJ _ A5.out).mono ?_); rintro e rQ ⟨rfl, hb⟩; refine ⟨_, rfl, ?_⟩; have av := ak (aU (g := cK) (o := .cells #[.int .u32 0, .int .i64 0] 67 (0, 0)) (by (with_reducible repeat (first | refine ae ?_ _ | refine ag ?_ | refine af ?_ _)); exact bK.out) hb); have az := ak (au (by repeat (first | (with_reducible first | exact HB.out | apply aa | apply J | apply ab | refine ai ?_ eH.out) | exact HB.out)) hb); clear bK; clear HB; have bK := av; have HB := az; clear av az; (try clear hb); (try clear bC); (try clear hk); (try clear hi)) | ((with_reducible refine aA (N := 7) rfl ?_); refine bl ?hg (N := 7) ?hd (cs := #[.int .u32 0, .int .i64 0]) (t := 67) ?hr ?_; (case hd => rfl); (case hg => rfl); (case hr => first | (go_simp; done) | (go_simp; rfl)); intro ep hg u4 hbox hb; have av := ak (aU (g := cK) (o := .cells #[.int .u32 0, .int .i64 0] 67 (0, 0)) (by (with_reducible repeat (first | refine ae ?_ _ | refine ag ?_ | refine af ?_ _)); exact bK.out) hb); have az := ak (au (by repeat (first | (with_reducible first | exact HB.out | apply aa | apply J | apply ab | refine ai ?_ eH.out) | exact HB.out)) hb); have aR := ak (hbox); have bp := ak ((by rw [hg]; exact (ay (by repeat (first | (with_reducible first | exact HB.out | apply aa | apply J | apply ab | refine ai ?_ eH.out) | exact HB.out))) : w.heap.size ≤ ep)); have eh := ak ((by rw [hg]; exact (ay (by repeat (first | (with_reducible first | exact HB.out | apply aa | apply J | apply ab | refine ai ?_ eH.out) | exact HB.out))) : w.heap.size ≤ ep)); have eg := ak ((by rw [hg]; exact Nat.ne_of_lt (cJ (g := cK) (o := .cells #[.int .u32 0, .int .i64 0] 67 (0, 0)) (by (with_reducible repeat (first | refine ae ?_ _ | refine ag ?_ | refine af ?_ _)); exact bK.out)) : cK ≠ ep)); have ef := ak ((by rw [hg]; exact Nat.ne_of_gt (cJ (g := cK) (o := .cells #[.int .u32 0, .int .i64 0] 67 (0, 0)) (by (with_reducible repeat (first | refine ae ?_ _ | refine ag ?_ | refine af ?_ _)); exact bK.out)) : ep ≠ cK)); clear bK; clear HB; have bK := av; have HB := az; have et := aR; have Cx := bp; have nu := eh; have eS := eg; have ks := ef; clear av az aR bp eh eg ef; clear hb hbox hg; have WE := ks.out; have Wl := eS.out; have Ke : u4.cell? ⟨ep, 0, none⟩ = some (.int .u32 0) := (aj et.out 0).trans rfl; have Kb : u4.cell? ⟨ep, 1, none⟩ = some (.int .i64 0) := (aj et.out 1).trans rfl; have JR := ah et.out 0; have JQ := ah et.out 1) | (go_at_call 112; (with_reducible refine (iA.calls k iI kg ik _ A7.out).mono ?_); rintro e mI ⟨rfl, hb⟩; have av := ak (aU (g := cK) (o := .cells #[.int .u32 0, .int .i64 0] 67 (0, 0)) (by (with_reducible repeat (first | refine ae ?_ _ | refine ag ?_ | refine af ?_ _)); refine cD ?_ eS.out _; (with_reducible repeat (first | refine ae ?_ _ | refine ag ?_ | refine af ?_ _)); refine cD ?_ eS.out _; (with_reducible repeat (first | refine ae ?_ _ | refine ag ?_ | refine af ?_ _)); exact bK.out) hb); have az := ak (aU (g := ep) (o := .cells #[.int .u32 iI, .int .i64 kg] 67 (0, 0)) (by (with_reducible repeat (first | refine ae ?_ _ | refine ag ?_ | refine af ?_ _)); refine b7 (cs := #[.int .u32 iI, .int .i64 0]) ?_ 1 _ rfl; (with_reducible repeat (first | refine ae ?_ _ | refine ag ?_ | refine af ?_ _)); refine b7 (cs := #[.int .u32 0, .int .i64 0]) ?_ 0 _ rfl; (with_reducible repeat (first | refine ae ?_ _ | refine ag ?_ | refine af ?_ _)); exact et.out) hb); have aR := ak (au (by repeat (first | (with_reducible first | exact HB.out | apply aa | apply J | apply ab | refine ai ?_ eH.out | refine ai ?_ nu.out) | exact HB.out)) hb); clear bK; clear et; clear HB; have bK := av; have et := az; have HB := aR; clear av az aR; (try clear hb); (try clear bC); (try clear hk); (try clear hi); have TN : mI.cell? ⟨ep, 0, none⟩ = some (.int .u32 iI) := (aj et.out 0).trans rfl; have TM : mI.cell? ⟨ep, 1, none⟩ = some (.int .i64 kg) := (aj et.out 1).trans rfl; have Sl := ah et.out 0; have Sk := ah et.out 1; have J8 : mI.cell? ⟨cK, 0, none⟩ = some (.int .u32 0) := (aj bK.out 0).trans rfl; have J7 : mI.cell? ⟨cK, 1, none⟩ = some (.int .i64 0) := (aj bK.out 1).trans rfl; have JN := ah bK.out 0; have JM := ah bK.out 1))
     refine bodyPost_ret (bV rfl _ _ cK 67 #[.int .u32 iI, .int .i64 kg] (0, 0) _ rfl (by (with_reducible repeat (first | refine ae ?_ _ | refine ag ?_ | refine af ?_ _)); refine b7 (cs := #[.int .u32 iI, .int .i64 0]) ?_ 1 _ rfl; (with_reducible repeat (first | refine ae ?_ _ | refine ag ?_ | refine af ?_ _)); refine b7 (cs := #[.int .u32 0, .int .i64 0]) ?_ 0 _ rfl; (with_reducible repeat (first | refine ae ?_ _ | refine ag ?_ | refine af ?_ _)); exact bK.out) Tryz.underlying67 rfl (by kernel_rfl)) rfl ?_
     exact ⟨by first | rfl | (simp [aq, ao] <;> rfl) | (simp [*, aq, ao] <;> rfl), by repeat (first | (with_reducible first | exact HB.out | apply aa | apply J | apply ab | refine ai ?_ eH.out | refine ai ?_ nu.out) | exact HB.out)⟩
    ·rw [if_neg c8] at H
     have ma : (ik.toList == a0.toList) = false := beq_eq_false_iff_ne.mpr c8
     have rK : (ik.toList != a0.toList) = true := bne_iff_ne.mpr c8
     simp only [Option.some.injEq, Prod.mk.injEq] at H
     obtain ⟨rfl, rfl, rfl⟩ := H
     go_enter Tryz.func82, Tryz.ntmps82
     go_wp2_with (first | ((with_reducible refine aA (N := 2) rfl ?_); refine bl ?hg (N := 2) ?hd (cs := #[.int .u32 0, .int .i64 0]) (t := 67) ?hr ?_; (case hd => rfl); (case hg => rfl); (case hr => first | (go_simp; done) | (go_simp; rfl)); intro cK hg tU hbox hb; have av := ak (au (by repeat (first | (with_reducible first | exact HB.out | apply aa | apply J | apply ab) | exact HB.out)) hb); have az := ak (hbox); have aR := ak ((by rw [hg]; exact (ay (by repeat (first | (with_reducible first | exact HB.out | apply aa | apply J | apply ab) | exact HB.out))) : w.heap.size ≤ cK)); have bp := ak ((by rw [hg]; exact (ay (by repeat (first | (with_reducible first | exact HB.out | apply aa | apply J | apply ab) | exact HB.out))) : w.heap.size ≤ cK)); clear HB; have HB := av; have bK := az; have Cy := aR; have eH := bp; clear av az aR bp; clear hb hbox hg) | ((with_reducible refine aD (f := 91) rfl ?_); refine bg (some 11) rfl rfl Tryz.func91 (by kernel_rfl) rfl #[.string a0, .string (⟨#[45]⟩ : ByteArray)] rfl (by (try simp only [List.map_toArray, List.map_cons, List.map_nil]); first | done | rfl | (simp only [List.length_drop, List.length_take]; rfl)) ?_; (with_reducible refine (strings_Cut.calls a0 (⟨#[45]⟩ : ByteArray) gf iJ yG _ A2.out).mono ?_); rintro e xp ⟨rfl, hb⟩; refine ⟨_, rfl, ?_⟩; have av := ak (aU (g := cK) (o := .cells #[.int .u32 0, .int .i64 0] 67 (0, 0)) (by (with_reducible repeat (first | refine ae ?_ _ | refine ag ?_ | refine af ?_ _)); exact bK.out) hb); have az := ak (au (by repeat (first | (with_reducible first | exact HB.out | apply aa | apply J | apply ab | refine ai ?_ eH.out) | exact HB.out)) hb); clear bK; clear HB; have bK := av; have HB := az; clear av az; (try clear hb); (try clear bC); (try clear hk); (try clear hi)) | ((with_reducible refine aD (f := 111) rfl ?_); refine bg (some 20) rfl rfl Tryz.func111 (by kernel_rfl) rfl #[.string ((gf ++ (⟨#[47]⟩ : ByteArray)) ++ iJ)] rfl (by (try simp only [List.map_toArray, List.map_cons, List.map_nil]); first | done | rfl | (simp only [List.length_drop, List.length_take]; rfl)) ?_; (with_reducible refine (gu.calls ((gf ++ (⟨#[47]⟩ : ByteArray)) ++ iJ) iI kg mJ _ A5.out).mono ?_); rintro e Bu ⟨rfl, hb⟩; refine ⟨_, rfl, ?_⟩; have av := ak (aU (g := cK) (o := .cells #[.int .u32 0, .int .i64 0] 67 (0, 0)) (by (with_reducible repeat (first | refine ae ?_ _ | refine ag ?_ | refine af ?_ _)); exact bK.out) hb); have az := ak (au (by repeat (first | (with_reducible first | exact HB.out | apply aa | apply J | apply ab | refine ai ?_ eH.out) | exact HB.out)) hb); clear bK; clear HB; have bK := av; have HB := az; clear av az; (try clear hb); (try clear bC); (try clear hk); (try clear hi)) | ((with_reducible refine aA (N := 7) rfl ?_); refine bl ?hg (N := 7) ?hd (cs := #[.int .u32 0, .int .i64 0]) (t := 67) ?hr ?_; (case hd => rfl); (case hg => rfl); (case hr => first | (go_simp; done) | (go_simp; rfl)); intro ep hg xo hbox hb; have av := ak (aU (g := cK) (o := .cells #[.int .u32 0, .int .i64 0] 67 (0, 0)) (by (with_reducible repeat (first | refine ae ?_ _ | refine ag ?_ | refine af ?_ _)); exact bK.out) hb); have az := ak (au (by repeat (first | (with_reducible first | exact HB.out | apply aa | apply J | apply ab | refine ai ?_ eH.out) | exact HB.out)) hb); have aR := ak (hbox); have bp := ak ((by rw [hg]; exact (ay (by repeat (first | (with_reducible first | exact HB.out | apply aa | apply J | apply ab | refine ai ?_ eH.out) | exact HB.out))) : w.heap.size ≤ ep)); have eh := ak ((by rw [hg]; exact (ay (by repeat (first | (with_reducible first | exact HB.out | apply aa | apply J | apply ab | refine ai ?_ eH.out) | exact HB.out))) : w.heap.size ≤ ep)); have eg := ak ((by rw [hg]; exact Nat.ne_of_lt (cJ (g := cK) (o := .cells #[.int .u32 0, .int .i64 0] 67 (0, 0)) (by (with_reducible repeat (first | refine ae ?_ _ | refine ag ?_ | refine af ?_ _)); exact bK.out)) : cK ≠ ep)); have ef := ak ((by rw [hg]; exact Nat.ne_of_gt (cJ (g := cK) (o := .cells #[.int .u32 0, .int .i64 0] 67 (0, 0)) (by (with_reducible repeat (first | refine ae ?_ _ | refine ag ?_ | refine af ?_ _)); exact bK.out)) : ep ≠ cK)); clear bK; clear HB; have bK := av; have HB := az; have et := aR; have Cx := bp; have nu := eh; have eS := eg; have ks := ef; clear av az aR bp eh eg ef; clear hb hbox hg; have N8 := ks.out; have N4 := eS.out; have J6 : xo.cell? ⟨ep, 0, none⟩ = some (.int .u32 0) := (aj et.out 0).trans rfl; have J5 : xo.cell? ⟨ep, 1, none⟩ = some (.int .i64 0) := (aj et.out 1).trans rfl; have JL := ah et.out 0; have JK := ah et.out 1) | (go_at_call 112; (with_reducible refine (iA.calls k iI kg ik _ A7.out).mono ?_); rintro e Pt ⟨rfl, hb⟩; have av := ak (aU (g := cK) (o := .cells #[.int .u32 0, .int .i64 0] 67 (0, 0)) (by (with_reducible repeat (first | refine ae ?_ _ | refine ag ?_ | refine af ?_ _)); refine cD ?_ eS.out _; (with_reducible repeat (first | refine ae ?_ _ | refine ag ?_ | refine af ?_ _)); refine cD ?_ eS.out _; (with_reducible repeat (first | refine ae ?_ _ | refine ag ?_ | refine af ?_ _)); exact bK.out) hb); have az := ak (aU (g := ep) (o := .cells #[.int .u32 iI, .int .i64 kg] 67 (0, 0)) (by (with_reducible repeat (first | refine ae ?_ _ | refine ag ?_ | refine af ?_ _)); refine b7 (cs := #[.int .u32 iI, .int .i64 0]) ?_ 1 _ rfl; (with_reducible repeat (first | refine ae ?_ _ | refine ag ?_ | refine af ?_ _)); refine b7 (cs := #[.int .u32 0, .int .i64 0]) ?_ 0 _ rfl; (with_reducible repeat (first | refine ae ?_ _ | refine ag ?_ | refine af ?_ _)); exact et.out) hb); have aR := ak (au (by repeat (first | (with_reducible first | exact HB.out | apply aa | apply J | apply ab | refine ai ?_ eH.out | refine ai ?_ nu.out) | exact HB.out)) hb); clear bK; clear et; clear HB; have bK := av; have et := az; have HB := aR; clear av az aR; (try clear hb); (try clear bC); (try clear hk); (try clear hi); have BP : Pt.cell? ⟨cK, 0, none⟩ = some (.int .u32 0) := (aj bK.out 0).trans rfl; have BO : Pt.cell? ⟨cK, 1, none⟩ = some (.int .i64 0) := (aj bK.out 1).trans rfl; have BJ := ah bK.out 0; have BI := ah bK.out 1))
     refine bodyPost_ret (bV rfl _ _ cK 67 #[.int .u32 0, .int .i64 0] (0, 0) _ rfl (by (with_reducible repeat (first | refine ae ?_ _ | refine ag ?_ | refine af ?_ _)); refine b7 (cs := #[.int .u32 0, .int .i64 0]) ?_ 1 _ rfl; (with_reducible repeat (first | refine ae ?_ _ | refine ag ?_ | refine af ?_ _)); refine b7 (cs := #[.int .u32 0, .int .i64 0]) ?_ 0 _ rfl; (with_reducible repeat (first | refine ae ?_ _ | refine ag ?_ | refine af ?_ _)); exact bK.out) Tryz.underlying67 rfl (by kernel_rfl)) rfl ?_
     exact ⟨by first | rfl | (simp [aq, ao] <;> rfl) | (simp [*, aq, ao] <;> rfl), by repeat (first | (with_reducible first | exact HB.out | apply aa | apply J | apply ab | refine ai ?_ eH.out | refine ai ?_ nu.out) | exact HB.out)⟩
   ·rw [if_neg c6] at H
    have jq : (mJ == 0) = false := beq_eq_false_iff_ne.mpr c6
    have uO : (mJ != 0) = true := bne_iff_ne.mpr c6
    simp only [Option.some.injEq, Prod.mk.injEq] at H
    obtain ⟨rfl, rfl, rfl⟩ := H
    go_enter Tryz.func82, Tryz.ntmps82
    go_wp2_with (first | ((with_reducible refine aA (N := 2) rfl ?_); refine bl ?hg (N := 2) ?hd (cs := #[.int .u32 0, .int .i64 0]) (t := 67) ?hr ?_; (case hd => rfl); (case hg => rfl); (case hr => first | (go_simp; done) | (go_simp; rfl)); intro cK hg xn hbox hb; have av := ak (au (by repeat (first | (with_reducible first | exact HB.out | apply aa | apply J | apply ab) | exact HB.out)) hb); have az := ak (hbox); have aR := ak ((by rw [hg]; exact (ay (by repeat (first | (with_reducible first | exact HB.out | apply aa | apply J | apply ab) | exact HB.out))) : w.heap.size ≤ cK)); have bp := ak ((by rw [hg]; exact (ay (by repeat (first | (with_reducible first | exact HB.out | apply aa | apply J | apply ab) | exact HB.out))) : w.heap.size ≤ cK)); clear HB; have HB := av; have bK := az; have Cy := aR; have eH := bp; clear av az aR bp; clear hb hbox hg) | ((with_reducible refine aD (f := 91) rfl ?_); refine bg (some 11) rfl rfl Tryz.func91 (by kernel_rfl) rfl #[.string a0, .string (⟨#[45]⟩ : ByteArray)] rfl (by (try simp only [List.map_toArray, List.map_cons, List.map_nil]); first | done | rfl | (simp only [List.length_drop, List.length_take]; rfl)) ?_; (with_reducible refine (strings_Cut.calls a0 (⟨#[45]⟩ : ByteArray) gf iJ yG _ A2.out).mono ?_); rintro e Bt ⟨rfl, hb⟩; refine ⟨_, rfl, ?_⟩; have av := ak (aU (g := cK) (o := .cells #[.int .u32 0, .int .i64 0] 67 (0, 0)) (by (with_reducible repeat (first | refine ae ?_ _ | refine ag ?_ | refine af ?_ _)); exact bK.out) hb); have az := ak (au (by repeat (first | (with_reducible first | exact HB.out | apply aa | apply J | apply ab | refine ai ?_ eH.out) | exact HB.out)) hb); clear bK; clear HB; have bK := av; have HB := az; clear av az; (try clear hb); (try clear bC); (try clear hk); (try clear hi)) | ((with_reducible refine aD (f := 111) rfl ?_); refine bg (some 20) rfl rfl Tryz.func111 (by kernel_rfl) rfl #[.string ((gf ++ (⟨#[47]⟩ : ByteArray)) ++ iJ)] rfl (by (try simp only [List.map_toArray, List.map_cons, List.map_nil]); first | done | rfl | (simp only [List.length_drop, List.length_take]; rfl)) ?_; (with_reducible refine (gu.calls ((gf ++ (⟨#[47]⟩ : ByteArray)) ++ iJ) iI kg mJ _ A5.out).mono ?_); rintro e tT ⟨rfl, hb⟩; refine ⟨_, rfl, ?_⟩; have av := ak (aU (g := cK) (o := .cells #[.int .u32 0, .int .i64 0] 67 (0, 0)) (by (with_reducible repeat (first | refine ae ?_ _ | refine ag ?_ | refine af ?_ _)); exact bK.out) hb); have az := ak (au (by repeat (first | (with_reducible first | exact HB.out | apply aa | apply J | apply ab | refine ai ?_ eH.out) | exact HB.out)) hb); clear bK; clear HB; have bK := av; have HB := az; clear av az; (try clear hb); (try clear bC); (try clear hk); (try clear hi)) | ((with_reducible refine aA (N := 7) rfl ?_); refine bl ?hg (N := 7) ?hd (cs := #[.int .u32 0, .int .i64 0]) (t := 67) ?hr ?_; (case hd => rfl); (case hg => rfl); (case hr => first | (go_simp; done) | (go_simp; rfl)); intro ep hg Ht hbox hb; have av := ak (aU (g := cK) (o := .cells #[.int .u32 0, .int .i64 0] 67 (0, 0)) (by (with_reducible repeat (first | refine ae ?_ _ | refine ag ?_ | refine af ?_ _)); exact bK.out) hb); have az := ak (au (by repeat (first | (with_reducible first | exact HB.out | apply aa | apply J | apply ab | refine ai ?_ eH.out) | exact HB.out)) hb); have aR := ak (hbox); have bp := ak ((by rw [hg]; exact (ay (by repeat (first | (with_reducible first | exact HB.out | apply aa | apply J | apply ab | refine ai ?_ eH.out) | exact HB.out))) : w.heap.size ≤ ep)); have eh := ak ((by rw [hg]; exact (ay (by repeat (first | (with_reducible first | exact HB.out | apply aa | apply J | apply ab | refine ai ?_ eH.out) | exact HB.out))) : w.heap.size ≤ ep)); have eg := ak ((by rw [hg]; exact Nat.ne_of_lt (cJ (g := cK) (o := .cells #[.int .u32 0, .int .i64 0] 67 (0, 0)) (by (with_reducible repeat (first | refine ae ?_ _ | refine ag ?_ | refine af ?_ _)); exact bK.out)) : cK ≠ ep)); have ef := ak ((by rw [hg]; exact Nat.ne_of_gt (cJ (g := cK) (o := .cells #[.int .u32 0, .int .i64 0] 67 (0, 0)) (by (with_reducible repeat (first | refine ae ?_ _ | refine ag ?_ | refine af ?_ _)); exact bK.out)) : ep ≠ cK)); clear bK; clear HB; have bK := av; have HB := az; have et := aR; have Cx := bp; have nu := eh; have eS := eg; have ks := ef; clear av az aR bp eh eg ef; clear hb hbox hg; have Wy := ks.out; have Wf := eS.out; have Tx : Ht.cell? ⟨ep, 0, none⟩ = some (.int .u32 0) := (aj et.out 0).trans rfl; have Tw : Ht.cell? ⟨ep, 1, none⟩ = some (.int .i64 0) := (aj et.out 1).trans rfl; have R6 := ah et.out 0; have R5 := ah et.out 1; have J0 : Ht.cell? ⟨cK, 0, none⟩ = some (.int .u32 0) := (aj bK.out 0).trans rfl; have JZ : Ht.cell? ⟨cK, 1, none⟩ = some (.int .i64 0) := (aj bK.out 1).trans rfl; have JF := ah bK.out 0; have JE := ah bK.out 1))
    refine bodyPost_ret (bV rfl _ _ cK 67 #[.int .u32 0, .int .i64 0] (0, 0) _ rfl (by (with_reducible repeat (first | refine ae ?_ _ | refine ag ?_ | refine af ?_ _)); refine b7 (cs := #[.int .u32 0, .int .i64 0]) ?_ 1 _ rfl; (with_reducible repeat (first | refine ae ?_ _ | refine ag ?_ | refine af ?_ _)); refine b7 (cs := #[.int .u32 0, .int .i64 0]) ?_ 0 _ rfl; (with_reducible repeat (first | refine ae ?_ _ | refine ag ?_ | refine af ?_ _)); refine cD ?_ eS.out _; (with_reducible repeat (first | refine ae ?_ _ | refine ag ?_ | refine af ?_ _)); refine cD ?_ eS.out _; (with_reducible repeat (first | refine ae ?_ _ | refine ag ?_ | refine af ?_ _)); exact bK.out) Tryz.underlying67 rfl (by kernel_rfl)) rfl ?_
    exact ⟨by first | rfl | (simp [aq, ao] <;> rfl) | (simp [*, aq, ao] <;> rfl), by repeat (first | (with_reducible first | exact HB.out | apply aa | apply J | apply ab | refine ai ?_ eH.out | refine ai ?_ nu.out) | exact HB.out)⟩
  ·rw [if_neg c4] at H
   exact absurd H (by simp)
 ·rw [if_neg c3] at H
  exact absurd H (by simp)
end Go.Proofs.YtndddnglapkplaaGreatDoor.V
end

section
namespace Go.Proofs.YtndddnglapkplaaGreatDoor.V
attribute [local go_sem] bI bG bP bO bw bu bH bF
def dd.f (k : Nat) (a0 : ByteArray) : Option (Int × Bool) := (dV.f k a0).bind fun nr => (if nr.2.2 = true then (if nr.2.1 = 26 then (some (nr.1, true)) else (some (0, false))) else (some (0, false)))
set_option maxHeartbeats 8000000 in
set_option maxRecDepth 100000 in
theorem dd.calls (k : Nat) (a0 : ByteArray) (r1 : Int) (r2 : Bool) (w : World) (h : dd.f k a0 = some (r1, r2)) :
  Calls Tryz.prog 87 #[.string a0] w fun e w' => e = .returned (.tuple #[.int .u32 r1, .bool r2]) ∧ Below w.heap.size w w' := by
 have uH := Tryz.underlying67
 have HB := ak (Below.refl w.heap.size w)
 have H : ((dV.f k a0).bind fun nr => (if nr.2.2 = true then (if nr.2.1 = 26 then (some (nr.1, true)) else (some (0, false))) else (some (0, false)))) = some (r1, r2) := h
 clear h
 replace H := Option.bind_eq_some_iff.mp H
 obtain ⟨⟨sh, lJ, DY⟩, ek, H⟩ := H
 replace H : (if DY = true then (if lJ = 26 then (some (sh, true)) else (some (0, false))) else (some (0, false))) = some (r1, r2) := H
 have A2 := ak ek
 clear ek
 by_cases c3 : DY = true
 ·subst c3
  have H1 : (if lJ = 26 then (some (sh, true)) else (some (0, false))) = some (r1, r2) := by rw [if_pos rfl] at H; exact H
  clear H
  have H := H1
  clear H1
  by_cases c4 : lJ = 26
  ·rw [if_pos c4] at H
   have fj : (lJ == 26) = true := beq_iff_eq.mpr c4
   have sU : (lJ != 26) = false := bne_eq_false_iff_eq.mpr c4
   clear c4
   simp only [Option.some.injEq, Prod.mk.injEq] at H
   obtain ⟨rfl, rfl⟩ := H
   go_enter Tryz.func87, Tryz.ntmps87
   go_wp2_with (first | ((with_reducible refine aD (f := 82) rfl ?_); refine bg (some 8) rfl rfl Tryz.func82 (by kernel_rfl) rfl #[.string a0] rfl (by (try simp only [List.map_toArray, List.map_cons, List.map_nil]); first | done | rfl | (simp only [List.length_drop, List.length_take]; rfl)) ?_; (with_reducible refine (dV.calls k a0 sh lJ true _ A2.out).mono ?_); rintro e w5 ⟨rfl, hb⟩; refine ⟨_, rfl, ?_⟩; have av := ak (au (by repeat (first | (with_reducible first | exact HB.out | apply aa | apply J | apply ab) | exact HB.out)) hb); clear HB; have HB := av; clear av; (try clear hb); (try clear bC); (try clear hk); (try clear hi)) | ((with_reducible refine aA (N := 4) rfl ?_); refine bl ?hg (N := 4) ?hd (cs := #[.int .u32 0, .int .i64 0]) (t := 67) ?hr ?_; (case hd => rfl); (case hg => rfl); (case hr => first | (go_simp; done) | (go_simp; rfl)); intro hP hg w6 hbox hb; have av := ak (au (by repeat (first | (with_reducible first | exact HB.out | apply aa | apply J | apply ab) | exact HB.out)) hb); have az := ak (hbox); have aR := ak ((by rw [hg]; exact (ay (by repeat (first | (with_reducible first | exact HB.out | apply aa | apply J | apply ab) | exact HB.out))) : w.heap.size ≤ hP)); have bp := ak ((by rw [hg]; exact (ay (by repeat (first | (with_reducible first | exact HB.out | apply aa | apply J | apply ab) | exact HB.out))) : w.heap.size ≤ hP)); clear HB; have HB := av; have ib := az; have Cv := aR; have re := bp; clear av az aR bp; clear hb hbox hg; have zu : w6.cell? ⟨hP, 0, none⟩ = some (.int .u32 0) := (aj ib.out 0).trans rfl; have zt : w6.cell? ⟨hP, 1, none⟩ = some (.int .i64 0) := (aj ib.out 1).trans rfl; have zm := ah ib.out 0; have zl := ah ib.out 1))
   go_ret2
   exact ⟨by first | rfl | (simp [aq, ao] <;> rfl) | (simp [*, aq, ao] <;> rfl), by repeat (first | (with_reducible first | exact HB.out | apply aa | apply J | apply ab | refine ai ?_ re.out) | exact HB.out)⟩
  ·rw [if_neg c4] at H
   have fj : (lJ == 26) = false := beq_eq_false_iff_ne.mpr c4
   have sU : (lJ != 26) = true := bne_iff_ne.mpr c4
   simp only [Option.some.injEq, Prod.mk.injEq] at H
   obtain ⟨rfl, rfl⟩ := H
   go_enter Tryz.func87, Tryz.ntmps87
   go_wp2_with (first | ((with_reducible refine aD (f := 82) rfl ?_); refine bg (some 8) rfl rfl Tryz.func82 (by kernel_rfl) rfl #[.string a0] rfl (by (try simp only [List.map_toArray, List.map_cons, List.map_nil]); first | done | rfl | (simp only [List.length_drop, List.length_take]; rfl)) ?_; (with_reducible refine (dV.calls k a0 sh lJ true _ A2.out).mono ?_); rintro e w8 ⟨rfl, hb⟩; refine ⟨_, rfl, ?_⟩; have av := ak (au (by repeat (first | (with_reducible first | exact HB.out | apply aa | apply J | apply ab) | exact HB.out)) hb); clear HB; have HB := av; clear av; (try clear hb); (try clear bC); (try clear hk); (try clear hi)) | ((with_reducible refine aA (N := 4) rfl ?_); refine bl ?hg (N := 4) ?hd (cs := #[.int .u32 0, .int .i64 0]) (t := 67) ?hr ?_; (case hd => rfl); (case hg => rfl); (case hr => first | (go_simp; done) | (go_simp; rfl)); intro hP hg w9 hbox hb; have av := ak (au (by repeat (first | (with_reducible first | exact HB.out | apply aa | apply J | apply ab) | exact HB.out)) hb); have az := ak (hbox); have aR := ak ((by rw [hg]; exact (ay (by repeat (first | (with_reducible first | exact HB.out | apply aa | apply J | apply ab) | exact HB.out))) : w.heap.size ≤ hP)); have bp := ak ((by rw [hg]; exact (ay (by repeat (first | (with_reducible first | exact HB.out | apply aa | apply J | apply ab) | exact HB.out))) : w.heap.size ≤ hP)); clear HB; have HB := av; have ib := az; have Cv := aR; have re := bp; clear av az aR bp; clear hb hbox hg; have wS : w9.cell? ⟨hP, 0, none⟩ = some (.int .u32 0) := (aj ib.out 0).trans rfl; have wR : w9.cell? ⟨hP, 1, none⟩ = some (.int .i64 0) := (aj ib.out 1).trans rfl; have wO := ah ib.out 0; have wN := ah ib.out 1))
   go_ret2
   exact ⟨by first | rfl | (simp [aq, ao] <;> rfl) | (simp [*, aq, ao] <;> rfl), by repeat (first | (with_reducible first | exact HB.out | apply aa | apply J | apply ab | refine ai ?_ re.out) | exact HB.out)⟩
 ·replace c3 := Bool.eq_false_iff.mpr c3
  subst c3
  have H1 : (some (0, false)) = some (r1, r2) := by rw [if_neg (show ¬ (false = true) by decide)] at H; exact H
  clear H
  have H := H1
  clear H1
  simp only [Option.some.injEq, Prod.mk.injEq] at H
  obtain ⟨rfl, rfl⟩ := H
  go_enter Tryz.func87, Tryz.ntmps87
  go_wp2_with (first | ((with_reducible refine aD (f := 82) rfl ?_); refine bg (some 8) rfl rfl Tryz.func82 (by kernel_rfl) rfl #[.string a0] rfl (by (try simp only [List.map_toArray, List.map_cons, List.map_nil]); first | done | rfl | (simp only [List.length_drop, List.length_take]; rfl)) ?_; (with_reducible refine (dV.calls k a0 sh lJ false _ A2.out).mono ?_); rintro e rQ ⟨rfl, hb⟩; refine ⟨_, rfl, ?_⟩; have av := ak (au (by repeat (first | (with_reducible first | exact HB.out | apply aa | apply J | apply ab) | exact HB.out)) hb); clear HB; have HB := av; clear av; (try clear hb); (try clear bC); (try clear hk); (try clear hi)) | ((with_reducible refine aA (N := 4) rfl ?_); refine bl ?hg (N := 4) ?hd (cs := #[.int .u32 0, .int .i64 0]) (t := 67) ?hr ?_; (case hd => rfl); (case hg => rfl); (case hr => first | (go_simp; done) | (go_simp; rfl)); intro hP hg u4 hbox hb; have av := ak (au (by repeat (first | (with_reducible first | exact HB.out | apply aa | apply J | apply ab) | exact HB.out)) hb); have az := ak (hbox); have aR := ak ((by rw [hg]; exact (ay (by repeat (first | (with_reducible first | exact HB.out | apply aa | apply J | apply ab) | exact HB.out))) : w.heap.size ≤ hP)); have bp := ak ((by rw [hg]; exact (ay (by repeat (first | (with_reducible first | exact HB.out | apply aa | apply J | apply ab) | exact HB.out))) : w.heap.size ≤ hP)); clear HB; have HB := av; have ib := az; have Cv := aR; have re := bp; clear av az aR bp; clear hb hbox hg; have Kg : u4.cell? ⟨hP, 0, none⟩ = some (.int .u32 0) := (aj ib.out 0).trans rfl; have Kf : u4.cell? ⟨hP, 1, none⟩ = some (.int .i64 0) := (aj ib.out 1).trans rfl; have JT := ah ib.out 0; have JS := ah ib.out 1))
  go_ret2
  exact ⟨by first | rfl | (simp [aq, ao] <;> rfl) | (simp [*, aq, ao] <;> rfl), by repeat (first | (with_reducible first | exact HB.out | apply aa | apply J | apply ab | refine ai ?_ re.out) | exact HB.out)⟩
end Go.Proofs.YtndddnglapkplaaGreatDoor.V
end

section
namespace Go.Proofs.YtndddnglapkplaaGreatDoor.V
attribute [local go_sem] bI bG bP bO bw bu bH bF
def ey.f (k : Nat) (a0 : ByteArray) : Option (Int × Int × Bool) := (strings_CutPrefix.f a0 (⟨#[112, 111, 111, 108, 47]⟩ : ByteArray)).bind fun qX => ((dV.f k qX.1).bind fun hU => (if qX.2 = true then (if hU.2.2 = true then (if hU.2.1 > 26 then (some (0, 0, false)) else (some (hU.1, hU.2.1, true))) else (some (0, 0, false))) else (some (0, 0, false))))
set_option maxHeartbeats 8000000 in
set_option maxRecDepth 100000 in
theorem ey.calls (k : Nat) (a0 : ByteArray) (r1 : Int) (r2 : Int) (r3 : Bool) (w : World) (h : ey.f k a0 = some (r1, r2, r3)) :
  Calls Tryz.prog 52 #[.string a0] w fun e w' => e = .returned (.tuple #[.agg #[.int .u32 r1, .int .i64 r2], .bool r3]) ∧ Below w.heap.size w w' := by
 have uH := Tryz.underlying67
 have HB := ak (Below.refl w.heap.size w)
 have H : ((strings_CutPrefix.f a0 (⟨#[112, 111, 111, 108, 47]⟩ : ByteArray)).bind fun qX => ((dV.f k qX.1).bind fun hU => (if qX.2 = true then (if hU.2.2 = true then (if hU.2.1 > 26 then (some (0, 0, false)) else (some (hU.1, hU.2.1, true))) else (some (0, 0, false))) else (some (0, 0, false))))) = some (r1, r2, r3) := h
 clear h
 replace H := Option.bind_eq_some_iff.mp H
 obtain ⟨⟨jB, yI⟩, ek, H⟩ := H
 replace H : ((dV.f k jB).bind fun hU => (if yI = true then (if hU.2.2 = true then (if hU.2.1 > 26 then (some (0, 0, false)) else (some (hU.1, hU.2.1, true))) else (some (0, 0, false))) else (some (0, 0, false)))) = some (r1, r2, r3) := H
 have A2 := ak ek
 clear ek
 replace H := Option.bind_eq_some_iff.mp H
 obtain ⟨⟨mM, jb, vu⟩, hG, H⟩ := H
 replace H : (if yI = true then (if vu = true then (if jb > 26 then (some (0, 0, false)) else (some (mM, jb, true))) else (some (0, 0, false))) else (some (0, 0, false))) = some (r1, r2, r3) := H
 have A3 := ak hG
 clear hG
 by_cases c4 : yI = true
 ·subst c4
  have H1 : (if vu = true then (if jb > 26 then (some (0, 0, false)) else (some (mM, jb, true))) else (some (0, 0, false))) = some (r1, r2, r3) := by rw [if_pos rfl] at H; exact H
  clear H
  have H := H1
  clear H1
  by_cases c5 : vu = true
  ·subst c5
   have H1 : (if jb > 26 then (some (0, 0, false)) else (some (mM, jb, true))) = some (r1, r2, r3) := by rw [if_pos rfl] at H; exact H
   clear H
   have H := H1
   clear H1
   by_cases c6 : jb > 26
   ·rw [if_pos c6] at H
    have jq : decide (26 < jb) = true := decide_eq_true c6
    clear c6
    simp only [Option.some.injEq, Prod.mk.injEq] at H
    obtain ⟨rfl, rfl, rfl⟩ := H
    go_enter Tryz.func52, Tryz.ntmps52
    go_wp2_with (first | ((with_reducible refine aA (N := 2) rfl ?_); refine bl ?hg (N := 2) ?hd (cs := #[.int .u32 0, .int .i64 0]) (t := 67) ?hr ?_; (case hd => rfl); (case hg => rfl); (case hr => first | (go_simp; done) | (go_simp; rfl)); intro bW hg w7 hbox hb; have av := ak (au (by repeat (first | (with_reducible first | exact HB.out | apply aa | apply J | apply ab) | exact HB.out)) hb); have az := ak (hbox); have aR := ak ((by rw [hg]; exact (ay (by repeat (first | (with_reducible first | exact HB.out | apply aa | apply J | apply ab) | exact HB.out))) : w.heap.size ≤ bW)); have bp := ak ((by rw [hg]; exact (ay (by repeat (first | (with_reducible first | exact HB.out | apply aa | apply J | apply ab) | exact HB.out))) : w.heap.size ≤ bW)); clear HB; have HB := av; have bA := az; have xi := aR; have dN := bp; clear av az aR bp; clear hb hbox hg) | ((with_reducible refine aD (f := 81) rfl ?_); refine bg (some 10) rfl rfl Tryz.func81 (by kernel_rfl) rfl #[.string a0, .string (⟨#[112, 111, 111, 108, 47]⟩ : ByteArray)] rfl (by (try simp only [List.map_toArray, List.map_cons, List.map_nil]); first | done | rfl | (simp only [List.length_drop, List.length_take]; rfl)) ?_; (with_reducible refine (strings_CutPrefix.calls a0 (⟨#[112, 111, 111, 108, 47]⟩ : ByteArray) jB true _ A2.out).mono ?_); rintro e w' ⟨rfl, ⟨nd, rfl⟩⟩; refine ⟨_, rfl, ?_⟩; (try (rw [og w7]; generalize o6 : World.drewN w7 _ = w7; have av : Aside0 (w7.heap[bW]? = some (.cells #[.int .u32 0, .int .i64 0] 67 (0, 0))) := ⟨by rw [← o6]; exact (by (with_reducible repeat (first | refine ae ?_ _ | refine ag ?_ | refine af ?_ _)); exact bA.out)⟩; have az : Aside0 (Below w.heap.size w w7) := ⟨by rw [← o6]; exact (by repeat (first | (with_reducible first | exact HB.out | apply aa | apply J | apply ab | refine ai ?_ dN.out) | exact HB.out))⟩; clear bA HB o6; have bA := av; have HB := az; clear av az))) | ((with_reducible refine aD (f := 82) rfl ?_); refine bg (some 15) rfl rfl Tryz.func82 (by kernel_rfl) rfl #[.string jB] rfl (by (try simp only [List.map_toArray, List.map_cons, List.map_nil]); first | done | rfl | (simp only [List.length_drop, List.length_take]; rfl)) ?_; (with_reducible refine (dV.calls k jB mM jb true _ A3.out).mono ?_); rintro e w8 ⟨rfl, hb⟩; refine ⟨_, rfl, ?_⟩; have av := ak (aU (g := bW) (o := .cells #[.int .u32 0, .int .i64 0] 67 (0, 0)) (by (with_reducible repeat (first | refine ae ?_ _ | refine ag ?_ | refine af ?_ _)); exact bA.out) hb); have az := ak (au (by repeat (first | (with_reducible first | exact HB.out | apply aa | apply J | apply ab | refine ai ?_ dN.out) | exact HB.out)) hb); clear bA; clear HB; have bA := av; have HB := az; clear av az; (try clear hb); (try clear bC); (try clear hk); (try clear hi)) | ((with_reducible refine aA (N := 6) rfl ?_); refine bl ?hg (N := 6) ?hd (cs := #[.int .u32 0, .int .i64 0]) (t := 67) ?hr ?_; (case hd => rfl); (case hg => rfl); (case hr => first | (go_simp; done) | (go_simp; rfl)); intro dM hg w9 hbox hb; have av := ak (aU (g := bW) (o := .cells #[.int .u32 0, .int .i64 0] 67 (0, 0)) (by (with_reducible repeat (first | refine ae ?_ _ | refine ag ?_ | refine af ?_ _)); exact bA.out) hb); have az := ak (au (by repeat (first | (with_reducible first | exact HB.out | apply aa | apply J | apply ab | refine ai ?_ dN.out) | exact HB.out)) hb); have aR := ak (hbox); have bp := ak ((by rw [hg]; exact (ay (by repeat (first | (with_reducible first | exact HB.out | apply aa | apply J | apply ab | refine ai ?_ dN.out) | exact HB.out))) : w.heap.size ≤ dM)); have eh := ak ((by rw [hg]; exact (ay (by repeat (first | (with_reducible first | exact HB.out | apply aa | apply J | apply ab | refine ai ?_ dN.out) | exact HB.out))) : w.heap.size ≤ dM)); have eg := ak ((by rw [hg]; exact Nat.ne_of_lt (cJ (g := bW) (o := .cells #[.int .u32 0, .int .i64 0] 67 (0, 0)) (by (with_reducible repeat (first | refine ae ?_ _ | refine ag ?_ | refine af ?_ _)); exact bA.out)) : bW ≠ dM)); have ef := ak ((by rw [hg]; exact Nat.ne_of_gt (cJ (g := bW) (o := .cells #[.int .u32 0, .int .i64 0] 67 (0, 0)) (by (with_reducible repeat (first | refine ae ?_ _ | refine ag ?_ | refine af ?_ _)); exact bA.out)) : dM ≠ bW)); clear bA; clear HB; have bA := av; have HB := az; have fo := aR; have xh := bp; have nw := eh; have dD := eg; have ij := ef; clear av az aR bp eh eg ef; clear hb hbox hg; have WH := ij.out; have Wn := dD.out; have qL : w9.cell? ⟨dM, 0, none⟩ = some (.int .u32 0) := (aj fo.out 0).trans rfl; have qK : w9.cell? ⟨dM, 1, none⟩ = some (.int .i64 0) := (aj fo.out 1).trans rfl; have qJ := ah fo.out 0; have qI := ah fo.out 1; have wQ : w9.cell? ⟨bW, 0, none⟩ = some (.int .u32 0) := (aj bA.out 0).trans rfl; have wP : w9.cell? ⟨bW, 1, none⟩ = some (.int .i64 0) := (aj bA.out 1).trans rfl; have wM := ah bA.out 0; have wL := ah bA.out 1))
    refine bodyPost_ret (bV rfl _ _ bW 67 #[.int .u32 0, .int .i64 0] (0, 0) _ rfl (by (with_reducible repeat (first | refine ae ?_ _ | refine ag ?_ | refine af ?_ _)); refine b7 (cs := #[.int .u32 0, .int .i64 0]) ?_ 1 _ rfl; (with_reducible repeat (first | refine ae ?_ _ | refine ag ?_ | refine af ?_ _)); refine b7 (cs := #[.int .u32 0, .int .i64 0]) ?_ 0 _ rfl; (with_reducible repeat (first | refine ae ?_ _ | refine ag ?_ | refine af ?_ _)); refine cD ?_ dD.out _; (with_reducible repeat (first | refine ae ?_ _ | refine ag ?_ | refine af ?_ _)); refine cD ?_ dD.out _; (with_reducible repeat (first | refine ae ?_ _ | refine ag ?_ | refine af ?_ _)); exact bA.out) Tryz.underlying67 rfl (by kernel_rfl)) rfl ?_
    exact ⟨by first | rfl | (simp [aq, ao] <;> rfl) | (simp [*, aq, ao] <;> rfl), by repeat (first | (with_reducible first | exact HB.out | apply aa | apply J | apply ab | refine ai ?_ dN.out | refine ai ?_ nw.out) | exact HB.out)⟩
   ·rw [if_neg c6] at H
    have jq : decide (26 < jb) = false := decide_eq_false c6
    clear c6
    simp only [Option.some.injEq, Prod.mk.injEq] at H
    obtain ⟨rfl, rfl, rfl⟩ := H
    go_enter Tryz.func52, Tryz.ntmps52
    go_wp2_with (first | ((with_reducible refine aA (N := 2) rfl ?_); refine bl ?hg (N := 2) ?hd (cs := #[.int .u32 0, .int .i64 0]) (t := 67) ?hr ?_; (case hd => rfl); (case hg => rfl); (case hr => first | (go_simp; done) | (go_simp; rfl)); intro bW hg oJ hbox hb; have av := ak (au (by repeat (first | (with_reducible first | exact HB.out | apply aa | apply J | apply ab) | exact HB.out)) hb); have az := ak (hbox); have aR := ak ((by rw [hg]; exact (ay (by repeat (first | (with_reducible first | exact HB.out | apply aa | apply J | apply ab) | exact HB.out))) : w.heap.size ≤ bW)); have bp := ak ((by rw [hg]; exact (ay (by repeat (first | (with_reducible first | exact HB.out | apply aa | apply J | apply ab) | exact HB.out))) : w.heap.size ≤ bW)); clear HB; have HB := av; have bA := az; have xi := aR; have dN := bp; clear av az aR bp; clear hb hbox hg) | ((with_reducible refine aD (f := 81) rfl ?_); refine bg (some 10) rfl rfl Tryz.func81 (by kernel_rfl) rfl #[.string a0, .string (⟨#[112, 111, 111, 108, 47]⟩ : ByteArray)] rfl (by (try simp only [List.map_toArray, List.map_cons, List.map_nil]); first | done | rfl | (simp only [List.length_drop, List.length_take]; rfl)) ?_; (with_reducible refine (strings_CutPrefix.calls a0 (⟨#[112, 111, 111, 108, 47]⟩ : ByteArray) jB true _ A2.out).mono ?_); rintro e w' ⟨rfl, ⟨nd, rfl⟩⟩; refine ⟨_, rfl, ?_⟩; (try (rw [og oJ]; generalize o6 : World.drewN oJ _ = oJ; have av : Aside0 (oJ.heap[bW]? = some (.cells #[.int .u32 0, .int .i64 0] 67 (0, 0))) := ⟨by rw [← o6]; exact (by (with_reducible repeat (first | refine ae ?_ _ | refine ag ?_ | refine af ?_ _)); exact bA.out)⟩; have az : Aside0 (Below w.heap.size w oJ) := ⟨by rw [← o6]; exact (by repeat (first | (with_reducible first | exact HB.out | apply aa | apply J | apply ab | refine ai ?_ dN.out) | exact HB.out))⟩; clear bA HB o6; have bA := av; have HB := az; clear av az))) | ((with_reducible refine aD (f := 82) rfl ?_); refine bg (some 15) rfl rfl Tryz.func82 (by kernel_rfl) rfl #[.string jB] rfl (by (try simp only [List.map_toArray, List.map_cons, List.map_nil]); first | done | rfl | (simp only [List.length_drop, List.length_take]; rfl)) ?_; (with_reducible refine (dV.calls k jB mM jb true _ A3.out).mono ?_); rintro e xq ⟨rfl, hb⟩; refine ⟨_, rfl, ?_⟩; have av := ak (aU (g := bW) (o := .cells #[.int .u32 0, .int .i64 0] 67 (0, 0)) (by (with_reducible repeat (first | refine ae ?_ _ | refine ag ?_ | refine af ?_ _)); exact bA.out) hb); have az := ak (au (by repeat (first | (with_reducible first | exact HB.out | apply aa | apply J | apply ab | refine ai ?_ dN.out) | exact HB.out)) hb); clear bA; clear HB; have bA := av; have HB := az; clear av az; (try clear hb); (try clear bC); (try clear hk); (try clear hi)) | ((with_reducible refine aA (N := 6) rfl ?_); refine bl ?hg (N := 6) ?hd (cs := #[.int .u32 0, .int .i64 0]) (t := 67) ?hr ?_; (case hd => rfl); (case hg => rfl); (case hr => first | (go_simp; done) | (go_simp; rfl)); intro dM hg mI hbox hb; have av := ak (aU (g := bW) (o := .cells #[.int .u32 0, .int .i64 0] 67 (0, 0)) (by (with_reducible repeat (first | refine ae ?_ _ | refine ag ?_ | refine af ?_ _)); exact bA.out) hb); have az := ak (au (by repeat (first | (with_reducible first | exact HB.out | apply aa | apply J | apply ab | refine ai ?_ dN.out) | exact HB.out)) hb); have aR := ak (hbox); have bp := ak ((by rw [hg]; exact (ay (by repeat (first | (with_reducible first | exact HB.out | apply aa | apply J | apply ab | refine ai ?_ dN.out) | exact HB.out))) : w.heap.size ≤ dM)); have eh := ak ((by rw [hg]; exact (ay (by repeat (first | (with_reducible first | exact HB.out | apply aa | apply J | apply ab | refine ai ?_ dN.out) | exact HB.out))) : w.heap.size ≤ dM)); have eg := ak ((by rw [hg]; exact Nat.ne_of_lt (cJ (g := bW) (o := .cells #[.int .u32 0, .int .i64 0] 67 (0, 0)) (by (with_reducible repeat (first | refine ae ?_ _ | refine ag ?_ | refine af ?_ _)); exact bA.out)) : bW ≠ dM)); have ef := ak ((by rw [hg]; exact Nat.ne_of_gt (cJ (g := bW) (o := .cells #[.int .u32 0, .int .i64 0] 67 (0, 0)) (by (with_reducible repeat (first | refine ae ?_ _ | refine ag ?_ | refine af ?_ _)); exact bA.out)) : dM ≠ bW)); clear bA; clear HB; have bA := av; have HB := az; have fo := aR; have xh := bp; have nw := eh; have dD := eg; have ij := ef; clear av az aR bp eh eg ef; clear hb hbox hg; have WD := ij.out; have Wk := dD.out; have J8 : mI.cell? ⟨dM, 0, none⟩ = some (.int .u32 0) := (aj fo.out 0).trans rfl; have J7 : mI.cell? ⟨dM, 1, none⟩ = some (.int .i64 0) := (aj fo.out 1).trans rfl; have JN := ah fo.out 0; have JM := ah fo.out 1; have TL : mI.cell? ⟨bW, 0, none⟩ = some (.int .u32 0) := (aj bA.out 0).trans rfl; have TK : mI.cell? ⟨bW, 1, none⟩ = some (.int .i64 0) := (aj bA.out 1).trans rfl; have Sj := ah bA.out 0; have Si := ah bA.out 1))
    refine bodyPost_ret (bV rfl _ _ bW 67 #[.int .u32 mM, .int .i64 jb] (0, 0) _ rfl (by (with_reducible repeat (first | refine ae ?_ _ | refine ag ?_ | refine af ?_ _)); refine b7 (cs := #[.int .u32 mM, .int .i64 0]) ?_ 1 _ rfl; (with_reducible repeat (first | refine ae ?_ _ | refine ag ?_ | refine af ?_ _)); refine b7 (cs := #[.int .u32 0, .int .i64 0]) ?_ 0 _ rfl; (with_reducible repeat (first | refine ae ?_ _ | refine ag ?_ | refine af ?_ _)); refine cD ?_ dD.out _; (with_reducible repeat (first | refine ae ?_ _ | refine ag ?_ | refine af ?_ _)); refine cD ?_ dD.out _; (with_reducible repeat (first | refine ae ?_ _ | refine ag ?_ | refine af ?_ _)); exact bA.out) Tryz.underlying67 rfl (by kernel_rfl)) rfl ?_
    exact ⟨by first | rfl | (simp [aq, ao] <;> rfl) | (simp [*, aq, ao] <;> rfl), by repeat (first | (with_reducible first | exact HB.out | apply aa | apply J | apply ab | refine ai ?_ dN.out | refine ai ?_ nw.out) | exact HB.out)⟩
  ·replace c5 := Bool.eq_false_iff.mpr c5
   subst c5
   have H1 : (some (0, 0, false)) = some (r1, r2, r3) := by rw [if_neg (show ¬ (false = true) by decide)] at H; exact H
   clear H
   have H := H1
   clear H1
   simp only [Option.some.injEq, Prod.mk.injEq] at H
   obtain ⟨rfl, rfl, rfl⟩ := H
   go_enter Tryz.func52, Tryz.ntmps52
   go_wp2_with (first | ((with_reducible refine aA (N := 2) rfl ?_); refine bl ?hg (N := 2) ?hd (cs := #[.int .u32 0, .int .i64 0]) (t := 67) ?hr ?_; (case hd => rfl); (case hg => rfl); (case hr => first | (go_simp; done) | (go_simp; rfl)); intro bW hg xp hbox hb; have av := ak (au (by repeat (first | (with_reducible first | exact HB.out | apply aa | apply J | apply ab) | exact HB.out)) hb); have az := ak (hbox); have aR := ak ((by rw [hg]; exact (ay (by repeat (first | (with_reducible first | exact HB.out | apply aa | apply J | apply ab) | exact HB.out))) : w.heap.size ≤ bW)); have bp := ak ((by rw [hg]; exact (ay (by repeat (first | (with_reducible first | exact HB.out | apply aa | apply J | apply ab) | exact HB.out))) : w.heap.size ≤ bW)); clear HB; have HB := av; have bA := az; have xi := aR; have dN := bp; clear av az aR bp; clear hb hbox hg) | ((with_reducible refine aD (f := 81) rfl ?_); refine bg (some 10) rfl rfl Tryz.func81 (by kernel_rfl) rfl #[.string a0, .string (⟨#[112, 111, 111, 108, 47]⟩ : ByteArray)] rfl (by (try simp only [List.map_toArray, List.map_cons, List.map_nil]); first | done | rfl | (simp only [List.length_drop, List.length_take]; rfl)) ?_; (with_reducible refine (strings_CutPrefix.calls a0 (⟨#[112, 111, 111, 108, 47]⟩ : ByteArray) jB true _ A2.out).mono ?_); rintro e w' ⟨rfl, ⟨nd, rfl⟩⟩; refine ⟨_, rfl, ?_⟩; (try (rw [og xp]; generalize o6 : World.drewN xp _ = xp; have av : Aside0 (xp.heap[bW]? = some (.cells #[.int .u32 0, .int .i64 0] 67 (0, 0))) := ⟨by rw [← o6]; exact (by (with_reducible repeat (first | refine ae ?_ _ | refine ag ?_ | refine af ?_ _)); exact bA.out)⟩; have az : Aside0 (Below w.heap.size w xp) := ⟨by rw [← o6]; exact (by repeat (first | (with_reducible first | exact HB.out | apply aa | apply J | apply ab | refine ai ?_ dN.out) | exact HB.out))⟩; clear bA HB o6; have bA := av; have HB := az; clear av az))) | ((with_reducible refine aD (f := 82) rfl ?_); refine bg (some 15) rfl rfl Tryz.func82 (by kernel_rfl) rfl #[.string jB] rfl (by (try simp only [List.map_toArray, List.map_cons, List.map_nil]); first | done | rfl | (simp only [List.length_drop, List.length_take]; rfl)) ?_; (with_reducible refine (dV.calls k jB mM jb false _ A3.out).mono ?_); rintro e Bu ⟨rfl, hb⟩; refine ⟨_, rfl, ?_⟩; have av := ak (aU (g := bW) (o := .cells #[.int .u32 0, .int .i64 0] 67 (0, 0)) (by (with_reducible repeat (first | refine ae ?_ _ | refine ag ?_ | refine af ?_ _)); exact bA.out) hb); have az := ak (au (by repeat (first | (with_reducible first | exact HB.out | apply aa | apply J | apply ab | refine ai ?_ dN.out) | exact HB.out)) hb); clear bA; clear HB; have bA := av; have HB := az; clear av az; (try clear hb); (try clear bC); (try clear hk); (try clear hi)) | ((with_reducible refine aA (N := 6) rfl ?_); refine bl ?hg (N := 6) ?hd (cs := #[.int .u32 0, .int .i64 0]) (t := 67) ?hr ?_; (case hd => rfl); (case hg => rfl); (case hr => first | (go_simp; done) | (go_simp; rfl)); intro dM hg xo hbox hb; have av := ak (aU (g := bW) (o := .cells #[.int .u32 0, .int .i64 0] 67 (0, 0)) (by (with_reducible repeat (first | refine ae ?_ _ | refine ag ?_ | refine af ?_ _)); exact bA.out) hb); have az := ak (au (by repeat (first | (with_reducible first | exact HB.out | apply aa | apply J | apply ab | refine ai ?_ dN.out) | exact HB.out)) hb); have aR := ak (hbox); have bp := ak ((by rw [hg]; exact (ay (by repeat (first | (with_reducible first | exact HB.out | apply aa | apply J | apply ab | refine ai ?_ dN.out) | exact HB.out))) : w.heap.size ≤ dM)); have eh := ak ((by rw [hg]; exact (ay (by repeat (first | (with_reducible first | exact HB.out | apply aa | apply J | apply ab | refine ai ?_ dN.out) | exact HB.out))) : w.heap.size ≤ dM)); have eg := ak ((by rw [hg]; exact Nat.ne_of_lt (cJ (g := bW) (o := .cells #[.int .u32 0, .int .i64 0] 67 (0, 0)) (by (with_reducible repeat (first | refine ae ?_ _ | refine ag ?_ | refine af ?_ _)); exact bA.out)) : bW ≠ dM)); have ef := ak ((by rw [hg]; exact Nat.ne_of_gt (cJ (g := bW) (o := .cells #[.int .u32 0, .int .i64 0] 67 (0, 0)) (by (with_reducible repeat (first | refine ae ?_ _ | refine ag ?_ | refine af ?_ _)); exact bA.out)) : dM ≠ bW)); clear bA; clear HB; have bA := av; have HB := az; have fo := aR; have xh := bp; have nw := eh; have dD := eg; have ij := ef; clear av az aR bp eh eg ef; clear hb hbox hg; have N8 := ij.out; have N4 := dD.out; have J6 : xo.cell? ⟨dM, 0, none⟩ = some (.int .u32 0) := (aj fo.out 0).trans rfl; have J5 : xo.cell? ⟨dM, 1, none⟩ = some (.int .i64 0) := (aj fo.out 1).trans rfl; have JL := ah fo.out 0; have JK := ah fo.out 1; have J4 : xo.cell? ⟨bW, 0, none⟩ = some (.int .u32 0) := (aj bA.out 0).trans rfl; have J3 : xo.cell? ⟨bW, 1, none⟩ = some (.int .i64 0) := (aj bA.out 1).trans rfl; have JJ := ah bA.out 0; have JI := ah bA.out 1))
   refine bodyPost_ret (bV rfl _ _ bW 67 #[.int .u32 0, .int .i64 0] (0, 0) _ rfl (by (with_reducible repeat (first | refine ae ?_ _ | refine ag ?_ | refine af ?_ _)); refine b7 (cs := #[.int .u32 0, .int .i64 0]) ?_ 1 _ rfl; (with_reducible repeat (first | refine ae ?_ _ | refine ag ?_ | refine af ?_ _)); refine b7 (cs := #[.int .u32 0, .int .i64 0]) ?_ 0 _ rfl; (with_reducible repeat (first | refine ae ?_ _ | refine ag ?_ | refine af ?_ _)); refine cD ?_ dD.out _; (with_reducible repeat (first | refine ae ?_ _ | refine ag ?_ | refine af ?_ _)); refine cD ?_ dD.out _; (with_reducible repeat (first | refine ae ?_ _ | refine ag ?_ | refine af ?_ _)); exact bA.out) Tryz.underlying67 rfl (by kernel_rfl)) rfl ?_
   exact ⟨by first | rfl | (simp [aq, ao] <;> rfl) | (simp [*, aq, ao] <;> rfl), by repeat (first | (with_reducible first | exact HB.out | apply aa | apply J | apply ab | refine ai ?_ dN.out | refine ai ?_ nw.out) | exact HB.out)⟩
 ·replace c4 := Bool.eq_false_iff.mpr c4
  subst c4
  have H1 : (some (0, 0, false)) = some (r1, r2, r3) := by rw [if_neg (show ¬ (false = true) by decide)] at H; exact H
  clear H
  have H := H1
  clear H1
  simp only [Option.some.injEq, Prod.mk.injEq] at H
  obtain ⟨rfl, rfl, rfl⟩ := H
  go_enter Tryz.func52, Tryz.ntmps52
  go_wp2_with (first | ((with_reducible refine aA (N := 2) rfl ?_); refine bl ?hg (N := 2) ?hd (cs := #[.int .u32 0, .int .i64 0]) (t := 67) ?hr ?_; (case hd => rfl); (case hg => rfl); (case hr => first | (go_simp; done) | (go_simp; rfl)); intro bW hg DO hbox hb; have av := ak (au (by repeat (first | (with_reducible first | exact HB.out | apply aa | apply J | apply ab) | exact HB.out)) hb); have az := ak (hbox); have aR := ak ((by rw [hg]; exact (ay (by repeat (first | (with_reducible first | exact HB.out | apply aa | apply J | apply ab) | exact HB.out))) : w.heap.size ≤ bW)); have bp := ak ((by rw [hg]; exact (ay (by repeat (first | (with_reducible first | exact HB.out | apply aa | apply J | apply ab) | exact HB.out))) : w.heap.size ≤ bW)); clear HB; have HB := av; have bA := az; have xi := aR; have dN := bp; clear av az aR bp; clear hb hbox hg) | ((with_reducible refine aD (f := 81) rfl ?_); refine bg (some 10) rfl rfl Tryz.func81 (by kernel_rfl) rfl #[.string a0, .string (⟨#[112, 111, 111, 108, 47]⟩ : ByteArray)] rfl (by (try simp only [List.map_toArray, List.map_cons, List.map_nil]); first | done | rfl | (simp only [List.length_drop, List.length_take]; rfl)) ?_; (with_reducible refine (strings_CutPrefix.calls a0 (⟨#[112, 111, 111, 108, 47]⟩ : ByteArray) jB false _ A2.out).mono ?_); rintro e w' ⟨rfl, ⟨nd, rfl⟩⟩; refine ⟨_, rfl, ?_⟩; (try (rw [og DO]; generalize o6 : World.drewN DO _ = DO; have av : Aside0 (DO.heap[bW]? = some (.cells #[.int .u32 0, .int .i64 0] 67 (0, 0))) := ⟨by rw [← o6]; exact (by (with_reducible repeat (first | refine ae ?_ _ | refine ag ?_ | refine af ?_ _)); exact bA.out)⟩; have az : Aside0 (Below w.heap.size w DO) := ⟨by rw [← o6]; exact (by repeat (first | (with_reducible first | exact HB.out | apply aa | apply J | apply ab | refine ai ?_ dN.out) | exact HB.out))⟩; clear bA HB o6; have bA := av; have HB := az; clear av az))) | ((with_reducible refine aD (f := 82) rfl ?_); refine bg (some 15) rfl rfl Tryz.func82 (by kernel_rfl) rfl #[.string jB] rfl (by (try simp only [List.map_toArray, List.map_cons, List.map_nil]); first | done | rfl | (simp only [List.length_drop, List.length_take]; rfl)) ?_; (with_reducible refine (dV.calls k jB mM jb vu _ A3.out).mono ?_); rintro e xn ⟨rfl, hb⟩; refine ⟨_, rfl, ?_⟩; have av := ak (aU (g := bW) (o := .cells #[.int .u32 0, .int .i64 0] 67 (0, 0)) (by (with_reducible repeat (first | refine ae ?_ _ | refine ag ?_ | refine af ?_ _)); exact bA.out) hb); have az := ak (au (by repeat (first | (with_reducible first | exact HB.out | apply aa | apply J | apply ab | refine ai ?_ dN.out) | exact HB.out)) hb); clear bA; clear HB; have bA := av; have HB := az; clear av az; (try clear hb); (try clear bC); (try clear hk); (try clear hi)) | ((with_reducible refine aA (N := 6) rfl ?_); refine bl ?hg (N := 6) ?hd (cs := #[.int .u32 0, .int .i64 0]) (t := 67) ?hr ?_; (case hd => rfl); (case hg => rfl); (case hr => first | (go_simp; done) | (go_simp; rfl)); intro dM hg Bt hbox hb; have av := ak (aU (g := bW) (o := .cells #[.int .u32 0, .int .i64 0] 67 (0, 0)) (by (with_reducible repeat (first | refine ae ?_ _ | refine ag ?_ | refine af ?_ _)); exact bA.out) hb); have az := ak (au (by repeat (first | (with_reducible first | exact HB.out | apply aa | apply J | apply ab | refine ai ?_ dN.out) | exact HB.out)) hb); have aR := ak (hbox); have bp := ak ((by rw [hg]; exact (ay (by repeat (first | (with_reducible first | exact HB.out | apply aa | apply J | apply ab | refine ai ?_ dN.out) | exact HB.out))) : w.heap.size ≤ dM)); have eh := ak ((by rw [hg]; exact (ay (by repeat (first | (with_reducible first | exact HB.out | apply aa | apply J | apply ab | refine ai ?_ dN.out) | exact HB.out))) : w.heap.size ≤ dM)); have eg := ak ((by rw [hg]; exact Nat.ne_of_lt (cJ (g := bW) (o := .cells #[.int .u32 0, .int .i64 0] 67 (0, 0)) (by (with_reducible repeat (first | refine ae ?_ _ | refine ag ?_ | refine af ?_ _)); exact bA.out)) : bW ≠ dM)); have ef := ak ((by rw [hg]; exact Nat.ne_of_gt (cJ (g := bW) (o := .cells #[.int .u32 0, .int .i64 0] 67 (0, 0)) (by (with_reducible repeat (first | refine ae ?_ _ | refine ag ?_ | refine af ?_ _)); exact bA.out)) : dM ≠ bW)); clear bA; clear HB; have bA := av; have HB := az; have fo := aR; have xh := bp; have nw := eh; have dD := eg; have ij := ef; clear av az aR bp eh eg ef; clear hb hbox hg; have N7 := ij.out; have N3 := dD.out; have J2 : Bt.cell? ⟨dM, 0, none⟩ = some (.int .u32 0) := (aj fo.out 0).trans rfl; have J1 : Bt.cell? ⟨dM, 1, none⟩ = some (.int .i64 0) := (aj fo.out 1).trans rfl; have JH := ah fo.out 0; have JG := ah fo.out 1; have BN : Bt.cell? ⟨bW, 0, none⟩ = some (.int .u32 0) := (aj bA.out 0).trans rfl; have BM : Bt.cell? ⟨bW, 1, none⟩ = some (.int .i64 0) := (aj bA.out 1).trans rfl; have BH := ah bA.out 0; have BG := ah bA.out 1))
  refine bodyPost_ret (bV rfl _ _ bW 67 #[.int .u32 0, .int .i64 0] (0, 0) _ rfl (by (with_reducible repeat (first | refine ae ?_ _ | refine ag ?_ | refine af ?_ _)); refine b7 (cs := #[.int .u32 0, .int .i64 0]) ?_ 1 _ rfl; (with_reducible repeat (first | refine ae ?_ _ | refine ag ?_ | refine af ?_ _)); refine b7 (cs := #[.int .u32 0, .int .i64 0]) ?_ 0 _ rfl; (with_reducible repeat (first | refine ae ?_ _ | refine ag ?_ | refine af ?_ _)); refine cD ?_ dD.out _; (with_reducible repeat (first | refine ae ?_ _ | refine ag ?_ | refine af ?_ _)); refine cD ?_ dD.out _; (with_reducible repeat (first | refine ae ?_ _ | refine ag ?_ | refine af ?_ _)); exact bA.out) Tryz.underlying67 rfl (by kernel_rfl)) rfl ?_
  exact ⟨by first | rfl | (simp [aq, ao] <;> rfl) | (simp [*, aq, ao] <;> rfl), by repeat (first | (with_reducible first | exact HB.out | apply aa | apply J | apply ab | refine ai ?_ dN.out | refine ai ?_ nw.out) | exact HB.out)⟩
end Go.Proofs.YtndddnglapkplaaGreatDoor.V
end

section
namespace Go.Proofs.YtndddnglapkplaaGreatDoor.V
attribute [local go_sem] bI bG bP bO bw bu bH bF
def eO.f (a0 : ByteArray) (a1 : ByteArray) : Option (ByteArray × Bool) := (strings_CutPrefix.f a0 a1).bind fun np => (if np.2 = true then ((bT.f np.1).bind fun lI => (if lI = true then (some (np.1, true)) else (some ((⟨#[]⟩ : ByteArray), false)))) else (some ((⟨#[]⟩ : ByteArray), false)))
set_option maxHeartbeats 8000000 in
set_option maxRecDepth 100000 in
theorem eO.calls (a0 : ByteArray) (a1 : ByteArray) (r1 : ByteArray) (r2 : Bool) (w : World) (h : eO.f a0 a1 = some (r1, r2)) :
  Calls Tryz.prog 94 #[.string a0, .string a1] w fun e w' => e = .returned (.tuple #[.string r1, .bool r2]) ∧ Below w.heap.size w w' := by
 have HB := ak (Below.refl w.heap.size w)
 have H : ((strings_CutPrefix.f a0 a1).bind fun np => (if np.2 = true then ((bT.f np.1).bind fun lI => (if lI = true then (some (np.1, true)) else (some ((⟨#[]⟩ : ByteArray), false)))) else (some ((⟨#[]⟩ : ByteArray), false)))) = some (r1, r2) := h
 clear h
 replace H := Option.bind_eq_some_iff.mp H
 obtain ⟨⟨kP, DX⟩, hG, H⟩ := H
 replace H : (if DX = true then ((bT.f kP).bind fun lI => (if lI = true then (some (kP, true)) else (some ((⟨#[]⟩ : ByteArray), false)))) else (some ((⟨#[]⟩ : ByteArray), false))) = some (r1, r2) := H
 have A3 := ak hG
 clear hG
 by_cases c4 : DX = true
 ·subst c4
  have H1 : ((bT.f kP).bind fun lI => (if lI = true then (some (kP, true)) else (some ((⟨#[]⟩ : ByteArray), false)))) = some (r1, r2) := by rw [if_pos rfl] at H; exact H
  clear H
  have H := H1
  clear H1
  replace H := Option.bind_eq_some_iff.mp H
  obtain ⟨lI, qa, H⟩ := H
  replace H : (if lI = true then (some (kP, true)) else (some ((⟨#[]⟩ : ByteArray), false))) = some (r1, r2) := H
  have A5 := ak qa
  clear qa
  by_cases c6 : lI = true
  ·subst c6
   have H1 : (some (kP, true)) = some (r1, r2) := by rw [if_pos rfl] at H; exact H
   clear H
   have H := H1
   clear H1
   simp only [Option.some.injEq, Prod.mk.injEq] at H
   obtain ⟨rfl, rfl⟩ := H
   go_enter Tryz.func94, Tryz.ntmps94
   go_wp2_with (first | ((with_reducible refine aD (f := 81) rfl ?_); refine bg (some 11) rfl rfl Tryz.func81 (by kernel_rfl) rfl #[.string a0, .string a1] rfl (by (try simp only [List.map_toArray, List.map_cons, List.map_nil]); first | done | rfl | (simp only [List.length_drop, List.length_take]; rfl)) ?_; (with_reducible refine (strings_CutPrefix.calls a0 a1 kP true _ A3.out).mono ?_); rintro e w' ⟨rfl, ⟨nd, rfl⟩⟩; refine ⟨_, rfl, ?_⟩) | (go_at_call 92; (with_reducible refine (bT.calls kP true _ A5.out).mono ?_); rintro e w7 ⟨rfl, hb⟩; have av := ak (au (by repeat (first | (with_reducible first | exact HB.out | apply aa | apply J | apply ab) | exact HB.out)) hb); clear HB; have HB := av; clear av; (try clear hb); (try clear bC); (try clear hk); (try clear hi)))
   go_ret2
   exact ⟨by first | rfl | (simp [aq, ao] <;> rfl) | (simp [*, aq, ao] <;> rfl), by repeat (first | (with_reducible first | exact HB.out | apply aa | apply J | apply ab) | exact HB.out)⟩
  ·replace c6 := Bool.eq_false_iff.mpr c6
   subst c6
   have H1 : (some ((⟨#[]⟩ : ByteArray), false)) = some (r1, r2) := by rw [if_neg (show ¬ (false = true) by decide)] at H; exact H
   clear H
   have H := H1
   clear H1
   simp only [Option.some.injEq, Prod.mk.injEq] at H
   obtain ⟨rfl, rfl⟩ := H
   go_enter Tryz.func94, Tryz.ntmps94
   go_wp2_with (first | ((with_reducible refine aD (f := 81) rfl ?_); refine bg (some 11) rfl rfl Tryz.func81 (by kernel_rfl) rfl #[.string a0, .string a1] rfl (by (try simp only [List.map_toArray, List.map_cons, List.map_nil]); first | done | rfl | (simp only [List.length_drop, List.length_take]; rfl)) ?_; (with_reducible refine (strings_CutPrefix.calls a0 a1 kP true _ A3.out).mono ?_); rintro e w' ⟨rfl, ⟨nd, rfl⟩⟩; refine ⟨_, rfl, ?_⟩) | (go_at_call 92; (with_reducible refine (bT.calls kP false _ A5.out).mono ?_); rintro e w8 ⟨rfl, hb⟩; have av := ak (au (by repeat (first | (with_reducible first | exact HB.out | apply aa | apply J | apply ab) | exact HB.out)) hb); clear HB; have HB := av; clear av; (try clear hb); (try clear bC); (try clear hk); (try clear hi)))
   go_ret2
   exact ⟨by first | rfl | (simp [aq, ao] <;> rfl) | (simp [*, aq, ao] <;> rfl), by repeat (first | (with_reducible first | exact HB.out | apply aa | apply J | apply ab) | exact HB.out)⟩
 ·replace c4 := Bool.eq_false_iff.mpr c4
  subst c4
  have H1 : (some ((⟨#[]⟩ : ByteArray), false)) = some (r1, r2) := by rw [if_neg (show ¬ (false = true) by decide)] at H; exact H
  clear H
  have H := H1
  clear H1
  simp only [Option.some.injEq, Prod.mk.injEq] at H
  obtain ⟨rfl, rfl⟩ := H
  go_enter Tryz.func94, Tryz.ntmps94
  go_wp2_with (first | ((with_reducible refine aD (f := 81) rfl ?_); refine bg (some 11) rfl rfl Tryz.func81 (by kernel_rfl) rfl #[.string a0, .string a1] rfl (by (try simp only [List.map_toArray, List.map_cons, List.map_nil]); first | done | rfl | (simp only [List.length_drop, List.length_take]; rfl)) ?_; (with_reducible refine (strings_CutPrefix.calls a0 a1 kP false _ A3.out).mono ?_); rintro e w' ⟨rfl, ⟨nd, rfl⟩⟩; refine ⟨_, rfl, ?_⟩))
  go_ret2
  exact ⟨by first | rfl | (simp [aq, ao] <;> rfl) | (simp [*, aq, ao] <;> rfl), by repeat (first | (with_reducible first | exact HB.out | apply aa | apply J | apply ab) | exact HB.out)⟩
end Go.Proofs.YtndddnglapkplaaGreatDoor.V
end

section
namespace Go.Proofs.YtndddnglapkplaaGreatDoor.V
attribute [local go_sem] bI bG bP bO bw bu bH bF
def iB.f (k : Nat) (a0 : ByteArray) : Option (ByteArray × Int × Bool) := (strings_CutPrefix.f a0 (⟨#[97, 102, 102, 47]⟩ : ByteArray)).bind fun qV => ((strings_Cut.f qV.1 (⟨#[47]⟩ : ByteArray)).bind fun jO => ((dd.f k jO.2.1).bind fun jN => (if qV.2 = true then (if jN.2 = true then ((bT.f jO.1).bind fun im => (if im = true then (some (jO.1, jN.1, true)) else (some ((⟨#[]⟩ : ByteArray), 0, false)))) else (some ((⟨#[]⟩ : ByteArray), 0, false))) else (some ((⟨#[]⟩ : ByteArray), 0, false)))))
set_option maxHeartbeats 8000000 in
set_option maxRecDepth 100000 in
theorem iB.calls (k : Nat) (a0 : ByteArray) (r1 : ByteArray) (r2 : Int) (r3 : Bool) (w : World) (h : iB.f k a0 = some (r1, r2, r3)) :
  Calls Tryz.prog 56 #[.string a0] w fun e w' => e = .returned (.tuple #[.string r1, .int .u32 r2, .bool r3]) ∧ Below w.heap.size w w' := by
 have HB := ak (Below.refl w.heap.size w)
 have H : ((strings_CutPrefix.f a0 (⟨#[97, 102, 102, 47]⟩ : ByteArray)).bind fun qV => ((strings_Cut.f qV.1 (⟨#[47]⟩ : ByteArray)).bind fun jO => ((dd.f k jO.2.1).bind fun jN => (if qV.2 = true then (if jN.2 = true then ((bT.f jO.1).bind fun im => (if im = true then (some (jO.1, jN.1, true)) else (some ((⟨#[]⟩ : ByteArray), 0, false)))) else (some ((⟨#[]⟩ : ByteArray), 0, false))) else (some ((⟨#[]⟩ : ByteArray), 0, false)))))) = some (r1, r2, r3) := h
 clear h
 replace H := Option.bind_eq_some_iff.mp H
 obtain ⟨⟨jA, vr⟩, ek, H⟩ := H
 replace H : ((strings_Cut.f jA (⟨#[47]⟩ : ByteArray)).bind fun jO => ((dd.f k jO.2.1).bind fun jN => (if vr = true then (if jN.2 = true then ((bT.f jO.1).bind fun im => (if im = true then (some (jO.1, jN.1, true)) else (some ((⟨#[]⟩ : ByteArray), 0, false)))) else (some ((⟨#[]⟩ : ByteArray), 0, false))) else (some ((⟨#[]⟩ : ByteArray), 0, false))))) = some (r1, r2, r3) := H
 have A2 := ak ek
 clear ek
 replace H := Option.bind_eq_some_iff.mp H
 obtain ⟨⟨iq, jz, vq⟩, hG, H⟩ := H
 replace H : ((dd.f k jz).bind fun jN => (if vr = true then (if jN.2 = true then ((bT.f iq).bind fun im => (if im = true then (some (iq, jN.1, true)) else (some ((⟨#[]⟩ : ByteArray), 0, false)))) else (some ((⟨#[]⟩ : ByteArray), 0, false))) else (some ((⟨#[]⟩ : ByteArray), 0, false)))) = some (r1, r2, r3) := H
 have A3 := ak hG
 clear hG
 replace H := Option.bind_eq_some_iff.mp H
 obtain ⟨⟨mL, vo⟩, mF, H⟩ := H
 replace H : (if vr = true then (if vo = true then ((bT.f iq).bind fun im => (if im = true then (some (iq, mL, true)) else (some ((⟨#[]⟩ : ByteArray), 0, false)))) else (some ((⟨#[]⟩ : ByteArray), 0, false))) else (some ((⟨#[]⟩ : ByteArray), 0, false))) = some (r1, r2, r3) := H
 have A4 := ak mF
 clear mF
 by_cases c5 : vr = true
 ·subst c5
  have H1 : (if vo = true then ((bT.f iq).bind fun im => (if im = true then (some (iq, mL, true)) else (some ((⟨#[]⟩ : ByteArray), 0, false)))) else (some ((⟨#[]⟩ : ByteArray), 0, false))) = some (r1, r2, r3) := by rw [if_pos rfl] at H; exact H
  clear H
  have H := H1
  clear H1
  by_cases c6 : vo = true
  ·subst c6
   have H1 : ((bT.f iq).bind fun im => (if im = true then (some (iq, mL, true)) else (some ((⟨#[]⟩ : ByteArray), 0, false)))) = some (r1, r2, r3) := by rw [if_pos rfl] at H; exact H
   clear H
   have H := H1
   clear H1
   replace H := Option.bind_eq_some_iff.mp H
   obtain ⟨im, pY, H⟩ := H
   replace H : (if im = true then (some (iq, mL, true)) else (some ((⟨#[]⟩ : ByteArray), 0, false))) = some (r1, r2, r3) := H
   have A7 := ak pY
   clear pY
   by_cases c8 : im = true
   ·subst c8
    have H1 : (some (iq, mL, true)) = some (r1, r2, r3) := by rw [if_pos rfl] at H; exact H
    clear H
    have H := H1
    clear H1
    simp only [Option.some.injEq, Prod.mk.injEq] at H
    obtain ⟨rfl, rfl, rfl⟩ := H
    go_enter Tryz.func56, Tryz.ntmps56
    go_wp2_with (first | ((with_reducible refine aD (f := 81) rfl ?_); refine bg (some 14) rfl rfl Tryz.func81 (by kernel_rfl) rfl #[.string a0, .string (⟨#[97, 102, 102, 47]⟩ : ByteArray)] rfl (by (try simp only [List.map_toArray, List.map_cons, List.map_nil]); first | done | rfl | (simp only [List.length_drop, List.length_take]; rfl)) ?_; (with_reducible refine (strings_CutPrefix.calls a0 (⟨#[97, 102, 102, 47]⟩ : ByteArray) jA true _ A2.out).mono ?_); rintro e w' ⟨rfl, ⟨nd, rfl⟩⟩; refine ⟨_, rfl, ?_⟩) | ((with_reducible refine aD (f := 91) rfl ?_); refine bg (some 19) rfl rfl Tryz.func91 (by kernel_rfl) rfl #[.string jA, .string (⟨#[47]⟩ : ByteArray)] rfl (by (try simp only [List.map_toArray, List.map_cons, List.map_nil]); first | done | rfl | (simp only [List.length_drop, List.length_take]; rfl)) ?_; (with_reducible refine (strings_Cut.calls jA (⟨#[47]⟩ : ByteArray) iq jz vq _ A3.out).mono ?_); rintro e w9 ⟨rfl, hb⟩; refine ⟨_, rfl, ?_⟩; have av := ak (au (by repeat (first | (with_reducible first | exact HB.out | apply aa | apply J | apply ab) | exact HB.out)) hb); clear HB; have HB := av; clear av; (try clear hb); (try clear bC); (try clear hk); (try clear hi)) | ((with_reducible refine aD (f := 87) rfl ?_); refine bg (some 25) rfl rfl Tryz.func87 (by kernel_rfl) rfl #[.string jz] rfl (by (try simp only [List.map_toArray, List.map_cons, List.map_nil]); first | done | rfl | (simp only [List.length_drop, List.length_take]; rfl)) ?_; (with_reducible refine (dd.calls k jz mL true _ A4.out).mono ?_); rintro e js ⟨rfl, hb⟩; refine ⟨_, rfl, ?_⟩; have av := ak (au (by repeat (first | (with_reducible first | exact HB.out | apply aa | apply J | apply ab) | exact HB.out)) hb); clear HB; have HB := av; clear av; (try clear hb); (try clear bC); (try clear hk); (try clear hi)) | (go_at_call 92; (with_reducible refine (bT.calls iq true _ A7.out).mono ?_); rintro e rQ ⟨rfl, hb⟩; have av := ak (au (by repeat (first | (with_reducible first | exact HB.out | apply aa | apply J | apply ab) | exact HB.out)) hb); clear HB; have HB := av; clear av; (try clear hb); (try clear bC); (try clear hk); (try clear hi)))
    go_ret3
    exact ⟨by first | rfl | (simp [aq, ao] <;> rfl) | (simp [*, aq, ao] <;> rfl), by repeat (first | (with_reducible first | exact HB.out | apply aa | apply J | apply ab) | exact HB.out)⟩
   ·replace c8 := Bool.eq_false_iff.mpr c8
    subst c8
    have H1 : (some ((⟨#[]⟩ : ByteArray), 0, false)) = some (r1, r2, r3) := by rw [if_neg (show ¬ (false = true) by decide)] at H; exact H
    clear H
    have H := H1
    clear H1
    simp only [Option.some.injEq, Prod.mk.injEq] at H
    obtain ⟨rfl, rfl, rfl⟩ := H
    go_enter Tryz.func56, Tryz.ntmps56
    go_wp2_with (first | ((with_reducible refine aD (f := 81) rfl ?_); refine bg (some 14) rfl rfl Tryz.func81 (by kernel_rfl) rfl #[.string a0, .string (⟨#[97, 102, 102, 47]⟩ : ByteArray)] rfl (by (try simp only [List.map_toArray, List.map_cons, List.map_nil]); first | done | rfl | (simp only [List.length_drop, List.length_take]; rfl)) ?_; (with_reducible refine (strings_CutPrefix.calls a0 (⟨#[97, 102, 102, 47]⟩ : ByteArray) jA true _ A2.out).mono ?_); rintro e w' ⟨rfl, ⟨nd, rfl⟩⟩; refine ⟨_, rfl, ?_⟩) | ((with_reducible refine aD (f := 91) rfl ?_); refine bg (some 19) rfl rfl Tryz.func91 (by kernel_rfl) rfl #[.string jA, .string (⟨#[47]⟩ : ByteArray)] rfl (by (try simp only [List.map_toArray, List.map_cons, List.map_nil]); first | done | rfl | (simp only [List.length_drop, List.length_take]; rfl)) ?_; (with_reducible refine (strings_Cut.calls jA (⟨#[47]⟩ : ByteArray) iq jz vq _ A3.out).mono ?_); rintro e u4 ⟨rfl, hb⟩; refine ⟨_, rfl, ?_⟩; have av := ak (au (by repeat (first | (with_reducible first | exact HB.out | apply aa | apply J | apply ab) | exact HB.out)) hb); clear HB; have HB := av; clear av; (try clear hb); (try clear bC); (try clear hk); (try clear hi)) | ((with_reducible refine aD (f := 87) rfl ?_); refine bg (some 25) rfl rfl Tryz.func87 (by kernel_rfl) rfl #[.string jz] rfl (by (try simp only [List.map_toArray, List.map_cons, List.map_nil]); first | done | rfl | (simp only [List.length_drop, List.length_take]; rfl)) ?_; (with_reducible refine (dd.calls k jz mL true _ A4.out).mono ?_); rintro e oJ ⟨rfl, hb⟩; refine ⟨_, rfl, ?_⟩; have av := ak (au (by repeat (first | (with_reducible first | exact HB.out | apply aa | apply J | apply ab) | exact HB.out)) hb); clear HB; have HB := av; clear av; (try clear hb); (try clear bC); (try clear hk); (try clear hi)) | (go_at_call 92; (with_reducible refine (bT.calls iq false _ A7.out).mono ?_); rintro e xq ⟨rfl, hb⟩; have av := ak (au (by repeat (first | (with_reducible first | exact HB.out | apply aa | apply J | apply ab) | exact HB.out)) hb); clear HB; have HB := av; clear av; (try clear hb); (try clear bC); (try clear hk); (try clear hi)))
    go_ret3
    exact ⟨by first | rfl | (simp [aq, ao] <;> rfl) | (simp [*, aq, ao] <;> rfl), by repeat (first | (with_reducible first | exact HB.out | apply aa | apply J | apply ab) | exact HB.out)⟩
  ·replace c6 := Bool.eq_false_iff.mpr c6
   subst c6
   have H1 : (some ((⟨#[]⟩ : ByteArray), 0, false)) = some (r1, r2, r3) := by rw [if_neg (show ¬ (false = true) by decide)] at H; exact H
   clear H
   have H := H1
   clear H1
   simp only [Option.some.injEq, Prod.mk.injEq] at H
   obtain ⟨rfl, rfl, rfl⟩ := H
   go_enter Tryz.func56, Tryz.ntmps56
   go_wp2_with (first | ((with_reducible refine aD (f := 81) rfl ?_); refine bg (some 14) rfl rfl Tryz.func81 (by kernel_rfl) rfl #[.string a0, .string (⟨#[97, 102, 102, 47]⟩ : ByteArray)] rfl (by (try simp only [List.map_toArray, List.map_cons, List.map_nil]); first | done | rfl | (simp only [List.length_drop, List.length_take]; rfl)) ?_; (with_reducible refine (strings_CutPrefix.calls a0 (⟨#[97, 102, 102, 47]⟩ : ByteArray) jA true _ A2.out).mono ?_); rintro e w' ⟨rfl, ⟨nd, rfl⟩⟩; refine ⟨_, rfl, ?_⟩) | ((with_reducible refine aD (f := 91) rfl ?_); refine bg (some 19) rfl rfl Tryz.func91 (by kernel_rfl) rfl #[.string jA, .string (⟨#[47]⟩ : ByteArray)] rfl (by (try simp only [List.map_toArray, List.map_cons, List.map_nil]); first | done | rfl | (simp only [List.length_drop, List.length_take]; rfl)) ?_; (with_reducible refine (strings_Cut.calls jA (⟨#[47]⟩ : ByteArray) iq jz vq _ A3.out).mono ?_); rintro e mI ⟨rfl, hb⟩; refine ⟨_, rfl, ?_⟩; have av := ak (au (by repeat (first | (with_reducible first | exact HB.out | apply aa | apply J | apply ab) | exact HB.out)) hb); clear HB; have HB := av; clear av; (try clear hb); (try clear bC); (try clear hk); (try clear hi)) | ((with_reducible refine aD (f := 87) rfl ?_); refine bg (some 25) rfl rfl Tryz.func87 (by kernel_rfl) rfl #[.string jz] rfl (by (try simp only [List.map_toArray, List.map_cons, List.map_nil]); first | done | rfl | (simp only [List.length_drop, List.length_take]; rfl)) ?_; (with_reducible refine (dd.calls k jz mL false _ A4.out).mono ?_); rintro e DP ⟨rfl, hb⟩; refine ⟨_, rfl, ?_⟩; have av := ak (au (by repeat (first | (with_reducible first | exact HB.out | apply aa | apply J | apply ab) | exact HB.out)) hb); clear HB; have HB := av; clear av; (try clear hb); (try clear bC); (try clear hk); (try clear hi)))
   go_ret3
   exact ⟨by first | rfl | (simp [aq, ao] <;> rfl) | (simp [*, aq, ao] <;> rfl), by repeat (first | (with_reducible first | exact HB.out | apply aa | apply J | apply ab) | exact HB.out)⟩
 ·replace c5 := Bool.eq_false_iff.mpr c5
  subst c5
  have H1 : (some ((⟨#[]⟩ : ByteArray), 0, false)) = some (r1, r2, r3) := by rw [if_neg (show ¬ (false = true) by decide)] at H; exact H
  clear H
  have H := H1
  clear H1
  simp only [Option.some.injEq, Prod.mk.injEq] at H
  obtain ⟨rfl, rfl, rfl⟩ := H
  go_enter Tryz.func56, Tryz.ntmps56
  go_wp2_with (first | ((with_reducible refine aD (f := 81) rfl ?_); refine bg (some 14) rfl rfl Tryz.func81 (by kernel_rfl) rfl #[.string a0, .string (⟨#[97, 102, 102, 47]⟩ : ByteArray)] rfl (by (try simp only [List.map_toArray, List.map_cons, List.map_nil]); first | done | rfl | (simp only [List.length_drop, List.length_take]; rfl)) ?_; (with_reducible refine (strings_CutPrefix.calls a0 (⟨#[97, 102, 102, 47]⟩ : ByteArray) jA false _ A2.out).mono ?_); rintro e w' ⟨rfl, ⟨nd, rfl⟩⟩; refine ⟨_, rfl, ?_⟩) | ((with_reducible refine aD (f := 91) rfl ?_); refine bg (some 19) rfl rfl Tryz.func91 (by kernel_rfl) rfl #[.string jA, .string (⟨#[47]⟩ : ByteArray)] rfl (by (try simp only [List.map_toArray, List.map_cons, List.map_nil]); first | done | rfl | (simp only [List.length_drop, List.length_take]; rfl)) ?_; (with_reducible refine (strings_Cut.calls jA (⟨#[47]⟩ : ByteArray) iq jz vq _ A3.out).mono ?_); rintro e u2 ⟨rfl, hb⟩; refine ⟨_, rfl, ?_⟩; have av := ak (au (by repeat (first | (with_reducible first | exact HB.out | apply aa | apply J | apply ab) | exact HB.out)) hb); clear HB; have HB := av; clear av; (try clear hb); (try clear bC); (try clear hk); (try clear hi)) | ((with_reducible refine aD (f := 87) rfl ?_); refine bg (some 25) rfl rfl Tryz.func87 (by kernel_rfl) rfl #[.string jz] rfl (by (try simp only [List.map_toArray, List.map_cons, List.map_nil]); first | done | rfl | (simp only [List.length_drop, List.length_take]; rfl)) ?_; (with_reducible refine (dd.calls k jz mL vo _ A4.out).mono ?_); rintro e tU ⟨rfl, hb⟩; refine ⟨_, rfl, ?_⟩; have av := ak (au (by repeat (first | (with_reducible first | exact HB.out | apply aa | apply J | apply ab) | exact HB.out)) hb); clear HB; have HB := av; clear av; (try clear hb); (try clear bC); (try clear hk); (try clear hi)))
  go_ret3
  exact ⟨by first | rfl | (simp [aq, ao] <;> rfl) | (simp [*, aq, ao] <;> rfl), by repeat (first | (with_reducible first | exact HB.out | apply aa | apply J | apply ab) | exact HB.out)⟩
end Go.Proofs.YtndddnglapkplaaGreatDoor.V
end

section
namespace Go.Proofs.YtndddnglapkplaaGreatDoor.V
theorem pre_true (s p : ByteArray) (t : List UInt8) (h : s.data.toList = p.data.toList ++ t) : ∃ q, strings_CutPrefix.f s p = some (q, true) ∧ q.data.toList = t := by
 have h1 := cw s; have h2 := cw p
 have hs : s.size = p.size + t.length := by rw [← h1, ← h2, h, List.length_append]
 have e : (s.extract 0 p.size).toList = p.toList := by
  rw [Lib.toList_data, Lib.toList_data, Lib.extract_from_zero, h, ← h2]
  simp
 refine ⟨s.extract p.size s.size, ?_, ?_⟩
 ·unfold strings_CutPrefix.f stringslite_CutPrefix.f stringslite_HasPrefix.f
  rw [if_pos (by omega), if_pos (by omega), if_pos (by omega), Option.bind_some, Int.toNat_natCast, e]
  rw [if_pos (by simp), if_pos (by omega), if_pos (by omega)]
  rfl
 ·rw [Lib.extract_to_end, h, ← h2]
  simp
theorem wH (s p : ByteArray) : (∃ q, strings_CutPrefix.f s p = some (q, true) ∧ s.data.toList = p.data.toList ++ q.data.toList) ∨ (strings_CutPrefix.f s p = some (s, false)) := by
 by_cases h : p.data.toList <+: s.data.toList
 ·obtain ⟨t, ht⟩ := h
  obtain ⟨q, h1, h2⟩ := pre_true s p t ht.symm
  exact .inl ⟨q, h1, by rw [h2, ht]⟩
 ·refine .inr ?_
  unfold strings_CutPrefix.f stringslite_CutPrefix.f stringslite_HasPrefix.f
  by_cases hs : (s.size : Int) ≥ (p.size : Int)
  ·have e : ((s.extract 0 p.size).toList == p.toList) = false := by
    rw [beq_eq_false_iff_ne, Lib.toList_data, Lib.toList_data, Lib.extract_from_zero]
    intro he
    exact h (he ▸ List.take_prefix _ _)
   rw [if_pos hs, if_pos (by omega), if_pos (by omega), Option.bind_some, Int.toNat_natCast, e, if_neg (by decide)]
   rfl
  ·rw [if_neg hs, Option.bind_some, if_neg (by decide)]
   rfl
theorem NV (v n : Nat) (hv : v < 4294967296) (hn : n ≤ 32) (hd : v % sz n = 0) (k : Nat) (hk : 4 ≤ k) : iA.f k (v : Int) (n : Int) = some (cY v n) := by
 obtain ⟨h1, h2⟩ := DT hn hd
 have hz := iK hn hd
 have hsz : (dL v (n : Int)).size < 1000000 := by
  have := k5 n; have := lQ v
  unfold dL
  rw [if_pos (vD hn hd), ByteArray.size_append, ByteArray.size_append, oU, Int.toNat_natCast]
  omega
 unfold iA.f strings_Replace.f
 rw [BA v hv _ k hk, Option.bind_some, if_pos ⟨hsz, rfl, rfl, rfl, by omega⟩, Option.bind_some, h1, Int.toNat_natCast]
 congr 1
 unfold zM cY
 rw [h2]
theorem tA (s : ByteArray) (hs : s.size ≤ 1000) (k : Nat) (hk : 4 ≤ k) : dV.f k s = some (match je s with | some (v, n) => ((v : Int), (n : Int), true) | none => (0, 0, false)) := by
 have hc := pM 45 s
 have hcut : strings_Cut.f s (⟨#[45]⟩ : ByteArray) = some (cN 45 s) := by
  unfold strings_Cut.f
  rw [if_pos (by omega)]
 unfold dV.f je
 rw [hcut, Option.bind_some, if_pos (by omega), if_pos (by rw [ByteArray.size_append, oU]; omega)]
 have hp : gu.f ((cN 45 s).1 ++ (⟨#[47]⟩ : ByteArray) ++ (cN 45 s).2.1) = some (kK ((cN 45 s).1 ++ (⟨#[47]⟩ : ByteArray) ++ (cN 45 s).2.1)) := by
  unfold gu.f
  rw [if_pos (by rw [ByteArray.size_append, ByteArray.size_append, oU]; omega)]
 rw [hp, Option.bind_some, GG]
 cases hq : l8 ((cN 45 s).1 ++ (⟨#[47]⟩ : ByteArray) ++ (cN 45 s).2.1) with
 | none => rfl
 | some q =>
  obtain ⟨v, n⟩ := q
  obtain ⟨g1, g2, g3, _⟩ := oT hq
  rw [if_pos rfl, NV v n g1 g2 g3 k hk, Option.bind_some, Option.bind_some]
  by_cases he : cY v n = s
  ·rw [if_pos (by rw [he]), if_pos he]
  ·rw [if_neg (fun h => he (fy (pF h))), if_neg he]
theorem FC : sz 26 = 64 := by decide
def bR (a : Nat) : Nat := a - a % 64
theorem nJ {a : Nat} (ha : a < 4294967296) : bR a < 4294967296 ∧ bR a % sz 26 = 0 := by
 rw [FC]
 unfold bR
 omega
def rz (s : ByteArray) : Option Nat := (je s).bind fun q => if q.2 = 26 then some q.1 else none
theorem CY {s : ByteArray} {v : Nat} (h : rz s = some v) : v < 4294967296 ∧ v % sz 26 = 0 ∧ s = cY v 26 ∧ bR v = v := by
 unfold rz at h
 obtain ⟨⟨u, n⟩, h1, h2⟩ := Option.bind_eq_some_iff.1 h
 split at h2
 ·rename_i hn
  obtain rfl : n = 26 := hn
  obtain rfl : u = v := Option.some.inj h2
  obtain ⟨g1, g2, g3, g4⟩ := qb h1
  refine ⟨g1, g3, g4, ?_⟩
  rw [FC] at g3
  unfold bR
  omega
 ·cases h2
theorem F6 {v : Nat} (hv : v < 4294967296) (hd : v % sz 26 = 0) : rz (cY v 26) = some v := by
 unfold rz
 rw [sq hv (by omega) hd]
 rfl
theorem sr (s : ByteArray) (hs : s.size ≤ 1000) (k : Nat) (hk : 4 ≤ k) : dd.f k s = some (match rz s with | some v => ((v : Int), true) | none => (0, false)) := by
 unfold dd.f rz
 rw [tA s hs k hk, Option.bind_some]
 cases je s with
 | none => rfl
 | some q =>
  obtain ⟨v, n⟩ := q
  rw [if_pos rfl, Option.bind_some]
  by_cases h : n = 26
  ·subst h
   rfl
  ·have hn : ¬ ((n : Int) = 26) := by omega
   simp [h, hn]
end Go.Proofs.YtndddnglapkplaaGreatDoor.V
end

section
namespace Go.Proofs.YtndddnglapkplaaGreatDoor.V
attribute [local go_sem] bI bG bP bO bw bu bH bF
def gC.f (k : Nat) (a0 : ByteArray) : Option (Int × Bool) := (strings_CutPrefix.f a0 (⟨#[98, 108, 111, 99, 107, 47]⟩ : ByteArray)).bind fun qW => ((dd.f k qW.1).bind fun mw => (if qW.2 = true then (if mw.2 = true then (some (mw.1, true)) else (some (0, false))) else (some (0, false))))
set_option maxHeartbeats 8000000 in
set_option maxRecDepth 100000 in
theorem gC.calls (k : Nat) (a0 : ByteArray) (r1 : Int) (r2 : Bool) (w : World) (h : gC.f k a0 = some (r1, r2)) :
  Calls Tryz.prog 54 #[.string a0] w fun e w' => e = .returned (.tuple #[.int .u32 r1, .bool r2]) ∧ Below w.heap.size w w' := by
 have HB := ak (Below.refl w.heap.size w)
 have H : ((strings_CutPrefix.f a0 (⟨#[98, 108, 111, 99, 107, 47]⟩ : ByteArray)).bind fun qW => ((dd.f k qW.1).bind fun mw => (if qW.2 = true then (if mw.2 = true then (some (mw.1, true)) else (some (0, false))) else (some (0, false))))) = some (r1, r2) := h
 clear h
 replace H := Option.bind_eq_some_iff.mp H
 obtain ⟨⟨lL, yH⟩, ek, H⟩ := H
 replace H : ((dd.f k lL).bind fun mw => (if yH = true then (if mw.2 = true then (some (mw.1, true)) else (some (0, false))) else (some (0, false)))) = some (r1, r2) := H
 have A2 := ak ek
 clear ek
 replace H := Option.bind_eq_some_iff.mp H
 obtain ⟨⟨qq, vt⟩, hG, H⟩ := H
 replace H : (if yH = true then (if vt = true then (some (qq, true)) else (some (0, false))) else (some (0, false))) = some (r1, r2) := H
 have A3 := ak hG
 clear hG
 by_cases c4 : yH = true
 ·subst c4
  have H1 : (if vt = true then (some (qq, true)) else (some (0, false))) = some (r1, r2) := by rw [if_pos rfl] at H; exact H
  clear H
  have H := H1
  clear H1
  by_cases c5 : vt = true
  ·subst c5
   have H1 : (some (qq, true)) = some (r1, r2) := by rw [if_pos rfl] at H; exact H
   clear H
   have H := H1
   clear H1
   simp only [Option.some.injEq, Prod.mk.injEq] at H
   obtain ⟨rfl, rfl⟩ := H
   go_enter Tryz.func54, Tryz.ntmps54
   go_wp2_with (first | ((with_reducible refine aD (f := 81) rfl ?_); refine bg (some 10) rfl rfl Tryz.func81 (by kernel_rfl) rfl #[.string a0, .string (⟨#[98, 108, 111, 99, 107, 47]⟩ : ByteArray)] rfl (by (try simp only [List.map_toArray, List.map_cons, List.map_nil]); first | done | rfl | (simp only [List.length_drop, List.length_take]; rfl)) ?_; (with_reducible refine (strings_CutPrefix.calls a0 (⟨#[98, 108, 111, 99, 107, 47]⟩ : ByteArray) lL true _ A2.out).mono ?_); rintro e w' ⟨rfl, ⟨nd, rfl⟩⟩; refine ⟨_, rfl, ?_⟩) | ((with_reducible refine aD (f := 87) rfl ?_); refine bg (some 15) rfl rfl Tryz.func87 (by kernel_rfl) rfl #[.string lL] rfl (by (try simp only [List.map_toArray, List.map_cons, List.map_nil]); first | done | rfl | (simp only [List.length_drop, List.length_take]; rfl)) ?_; (with_reducible refine (dd.calls k lL qq true _ A3.out).mono ?_); rintro e w6 ⟨rfl, hb⟩; refine ⟨_, rfl, ?_⟩; have av := ak (au (by repeat (first | (with_reducible first | exact HB.out | apply aa | apply J | apply ab) | exact HB.out)) hb); clear HB; have HB := av; clear av; (try clear hb); (try clear bC); (try clear hk); (try clear hi)))
   go_ret2
   exact ⟨by first | rfl | (simp [aq, ao] <;> rfl) | (simp [*, aq, ao] <;> rfl), by repeat (first | (with_reducible first | exact HB.out | apply aa | apply J | apply ab) | exact HB.out)⟩
  ·replace c5 := Bool.eq_false_iff.mpr c5
   subst c5
   have H1 : (some (0, false)) = some (r1, r2) := by rw [if_neg (show ¬ (false = true) by decide)] at H; exact H
   clear H
   have H := H1
   clear H1
   simp only [Option.some.injEq, Prod.mk.injEq] at H
   obtain ⟨rfl, rfl⟩ := H
   go_enter Tryz.func54, Tryz.ntmps54
   go_wp2_with (first | ((with_reducible refine aD (f := 81) rfl ?_); refine bg (some 10) rfl rfl Tryz.func81 (by kernel_rfl) rfl #[.string a0, .string (⟨#[98, 108, 111, 99, 107, 47]⟩ : ByteArray)] rfl (by (try simp only [List.map_toArray, List.map_cons, List.map_nil]); first | done | rfl | (simp only [List.length_drop, List.length_take]; rfl)) ?_; (with_reducible refine (strings_CutPrefix.calls a0 (⟨#[98, 108, 111, 99, 107, 47]⟩ : ByteArray) lL true _ A2.out).mono ?_); rintro e w' ⟨rfl, ⟨nd, rfl⟩⟩; refine ⟨_, rfl, ?_⟩) | ((with_reducible refine aD (f := 87) rfl ?_); refine bg (some 15) rfl rfl Tryz.func87 (by kernel_rfl) rfl #[.string lL] rfl (by (try simp only [List.map_toArray, List.map_cons, List.map_nil]); first | done | rfl | (simp only [List.length_drop, List.length_take]; rfl)) ?_; (with_reducible refine (dd.calls k lL qq false _ A3.out).mono ?_); rintro e w7 ⟨rfl, hb⟩; refine ⟨_, rfl, ?_⟩; have av := ak (au (by repeat (first | (with_reducible first | exact HB.out | apply aa | apply J | apply ab) | exact HB.out)) hb); clear HB; have HB := av; clear av; (try clear hb); (try clear bC); (try clear hk); (try clear hi)))
   go_ret2
   exact ⟨by first | rfl | (simp [aq, ao] <;> rfl) | (simp [*, aq, ao] <;> rfl), by repeat (first | (with_reducible first | exact HB.out | apply aa | apply J | apply ab) | exact HB.out)⟩
 ·replace c4 := Bool.eq_false_iff.mpr c4
  subst c4
  have H1 : (some (0, false)) = some (r1, r2) := by rw [if_neg (show ¬ (false = true) by decide)] at H; exact H
  clear H
  have H := H1
  clear H1
  simp only [Option.some.injEq, Prod.mk.injEq] at H
  obtain ⟨rfl, rfl⟩ := H
  go_enter Tryz.func54, Tryz.ntmps54
  go_wp2_with (first | ((with_reducible refine aD (f := 81) rfl ?_); refine bg (some 10) rfl rfl Tryz.func81 (by kernel_rfl) rfl #[.string a0, .string (⟨#[98, 108, 111, 99, 107, 47]⟩ : ByteArray)] rfl (by (try simp only [List.map_toArray, List.map_cons, List.map_nil]); first | done | rfl | (simp only [List.length_drop, List.length_take]; rfl)) ?_; (with_reducible refine (strings_CutPrefix.calls a0 (⟨#[98, 108, 111, 99, 107, 47]⟩ : ByteArray) lL false _ A2.out).mono ?_); rintro e w' ⟨rfl, ⟨nd, rfl⟩⟩; refine ⟨_, rfl, ?_⟩) | ((with_reducible refine aD (f := 87) rfl ?_); refine bg (some 15) rfl rfl Tryz.func87 (by kernel_rfl) rfl #[.string lL] rfl (by (try simp only [List.map_toArray, List.map_cons, List.map_nil]); first | done | rfl | (simp only [List.length_drop, List.length_take]; rfl)) ?_; (with_reducible refine (dd.calls k lL qq vt _ A3.out).mono ?_); rintro e w8 ⟨rfl, hb⟩; refine ⟨_, rfl, ?_⟩; have av := ak (au (by repeat (first | (with_reducible first | exact HB.out | apply aa | apply J | apply ab) | exact HB.out)) hb); clear HB; have HB := av; clear av; (try clear hb); (try clear bC); (try clear hk); (try clear hi)))
  go_ret2
  exact ⟨by first | rfl | (simp [aq, ao] <;> rfl) | (simp [*, aq, ao] <;> rfl), by repeat (first | (with_reducible first | exact HB.out | apply aa | apply J | apply ab) | exact HB.out)⟩
end Go.Proofs.YtndddnglapkplaaGreatDoor.V
end

section
namespace Go.Proofs.YtndddnglapkplaaGreatDoor.V
def yt : ByteArray := ⟨#[112, 111, 111, 108, 47]⟩
def gl : ByteArray := ⟨#[98, 108, 111, 99, 107, 47]⟩
def FY : ByteArray := ⟨#[97, 102, 102, 47]⟩
theorem fg (p t : ByteArray) : (p ++ t).data.toList = p.data.toList ++ t.data.toList := by simp
theorem BB (p t : ByteArray) : strings_CutPrefix.f (p ++ t) p = some (t, true) := by
 obtain ⟨q, h1, h2⟩ := pre_true (p ++ t) p t.data.toList (fg p t)
 rw [h1, fy h2]
theorem yS {s p q : ByteArray} (h : s.data.toList = p.data.toList ++ q.data.toList) : q.size ≤ s.size ∧ s = p ++ q := by
 refine ⟨?_, fy (by rw [h, fg])⟩
 have h1 := cw s; have h2 := cw q
 have := congrArg List.length h
 rw [List.length_append] at this
 omega
theorem CX (v : Nat) (hv : v < 4294967296) (hd : bR v = v) (k : Nat) (hk : 4 ≤ k) : gC.f k (gl ++ cY v 26) = some ((v : Int), true) := by
 have h3 := j6 v 26
 have rX : v % sz 26 = 0 := by rw [FC]; unfold bR at hd; omega
 unfold gC.f
 rw [show (gl ++ cY v 26) = ((⟨#[98, 108, 111, 99, 107, 47]⟩ : ByteArray) ++ cY v 26) from rfl, BB, Option.bind_some, sr _ (by first | omega | (dsimp only; omega)) k hk, Option.bind_some, F6 hv rX, if_pos rfl]
 rfl
theorem CV (key : ByteArray) (hs : key.size ≤ 1000) (k : Nat) (hk : 4 ≤ k) :
  (∃ v n : Nat, v < 4294967296 ∧ n ≤ 26 ∧ kG v (n : Int) = true ∧ key = yt ++ cY v n ∧ ey.f k key = some ((v : Int), (n : Int), true)) ∨ (ey.f k key = some (0, 0, false)) := by
 unfold ey.f
 rcases wH key ⟨#[112, 111, 111, 108, 47]⟩ with ⟨q, h1, h2⟩ | h1
 ·obtain ⟨h3, h4⟩ := yS h2
  rw [h1, Option.bind_some, tA q (by first | omega | (dsimp only; omega)) k hk, Option.bind_some, if_pos rfl]
  cases hb : je q with
  | none => exact .inr rfl
  | some r =>
   obtain ⟨v, n⟩ := r
   obtain ⟨g1, g2, g3, g4⟩ := qb hb
   by_cases hn : n ≤ 26
   ·refine .inl ⟨v, n, g1, hn, vD g2 g3, by rw [h4, g4]; rfl, ?_⟩
    rw [if_pos rfl, if_neg (by first | omega | (dsimp only; omega))]
   ·refine .inr ?_
    rw [if_pos rfl, if_pos (by first | omega | (dsimp only; omega))]
 ·rw [h1, Option.bind_some, tA key hs k hk, Option.bind_some]
  exact .inr rfl
theorem Eo (v n : Nat) (hv : v < 4294967296) (hn : n ≤ 26) (hm : kG v (n : Int) = true) (k : Nat) (hk : 4 ≤ k) : ey.f k (yt ++ cY v n) = some ((v : Int), (n : Int), true) := by
 have h3 := j6 v n
 obtain ⟨m, e, h1, h2⟩ := tG hm
 obtain rfl : n = m := by omega
 unfold ey.f
 rw [show (yt ++ cY v n) = ((⟨#[112, 111, 111, 108, 47]⟩ : ByteArray) ++ cY v n) from rfl, BB, Option.bind_some, tA _ (by first | omega | (dsimp only; omega)) k hk, Option.bind_some, sq hv h1 h2, if_pos rfl, if_pos rfl, if_neg (by first | omega | (dsimp only; omega))]
theorem CW (key p : ByteArray) : (∃ s, dE s = true ∧ key = p ++ s ∧ eO.f key p = some (s, true)) ∨ (eO.f key p = some (⟨#[]⟩, false)) := by
 unfold eO.f bT.f
 rcases wH key p with ⟨q, h1, h2⟩ | h1
 ·obtain ⟨h3, h4⟩ := yS h2
  rw [h1, Option.bind_some, if_pos rfl, Option.bind_some]
  cases hr : dE q with
  | true => exact .inl ⟨q, hr, h4, rfl⟩
  | false => exact .inr rfl
 ·rw [h1, Option.bind_some]
  exact .inr rfl
def GO (s : ByteArray) (a : Nat) : ByteArray := FY ++ s ++ (⟨#[47]⟩ : ByteArray) ++ cY (bR a) 26
theorem wj (s : ByteArray) (a : Nat) : GO s a = FY ++ (s ++ ((⟨#[47]⟩ : ByteArray) ++ cY (bR a) 26)) := by
 apply fy
 simp [GO]
theorem Ep (key : ByteArray) (hs : key.size ≤ 1000) (k : Nat) (hk : 4 ≤ k) :
  (∃ (s : ByteArray) (v : Nat), dE s = true ∧ v < 4294967296 ∧ bR v = v ∧ key = GO s v ∧ iB.f k key = some (s, (v : Int), true)) ∨ (iB.f k key = some (⟨#[]⟩, 0, false)) := by
 have hcut : ∀ t : ByteArray, t.size ≤ 1000 → strings_Cut.f t (⟨#[47]⟩ : ByteArray) = some (cN 47 t) := fun t ht => by
  unfold strings_Cut.f
  rw [if_pos (by first | omega | (dsimp only; omega))]
 unfold iB.f bT.f
 rcases wH key ⟨#[97, 102, 102, 47]⟩ with ⟨q, h1, h2⟩ | h1
 ·obtain ⟨h3, h4⟩ := yS h2
  have hz := pM 47 q
  rw [h1, Option.bind_some, hcut q (by first | omega | (dsimp only; omega)), Option.bind_some, sr _ (by first | omega | (dsimp only; omega)) k hk, Option.bind_some, if_pos rfl]
  cases hb : rz (cN 47 q).2.1 with
  | none => exact .inr rfl
  | some v =>
   obtain ⟨g1, g2, g3, g4⟩ := CY hb
   rw [if_pos rfl, Option.bind_some]
   cases hr : dE (cN 47 q).1 with
   | false => exact .inr rfl
   | true =>
    refine .inl ⟨(cN 47 q).1, v, hr, g1, g4, ?_, rfl⟩
    have hok : (cN 47 q).2.2 = true := by
     unfold cN at g3 ⊢
     by_cases hm : Lib.indexByte q.data.toList 47 = -1
     ·rw [if_pos hm] at g3
      have := congrArg (fun b : ByteArray => b.data.toList) g3
      simp only [j7] at this
      unfold rI at this
      simp at this
     ·rw [if_neg hm]
    obtain ⟨c1, _⟩ := uM 47 q hok
    rw [h4, wj]
    apply fy
    rw [fg, fg, fg, fg, c1, g3, g4]
    simp [FY]
 ·have hz := pM 47 key
  rw [h1, Option.bind_some, hcut key hs, Option.bind_some, sr _ (by first | omega | (dsimp only; omega)) k hk, Option.bind_some]
  exact .inr rfl
end Go.Proofs.YtndddnglapkplaaGreatDoor.V
end

section
namespace Go.Proofs.YtndddnglapkplaaGreatDoor.V
def e9.f (l0 : List Int) : Option (List Int) := if l0.length ≤ 4294967296 then some l0 else none
theorem e9.calls (A0 : Option Addr) (c0 : Nat) (l0 : List Int) (r : List Int) (w : World) (zf : Kd.C (Kd.int .u8) w A0 l0.length l0) (gX : l0.length ≤ c0) (h : e9.f l0 = some r) :
  Calls Tryz.prog 113 #[.slice A0 l0.length c0] w fun e w' => ∃ xr : Value, e = .returned xr ∧ Kd.R (Kd.int .u8) 5 w' w.heap.size (fun _ => True) xr r ∧ Below w.heap.size w w' := by
 unfold e9.f at h
 split at h
 ·rename_i hl
  obtain rfl := Option.some.inj h
  exact Ko l0 A0 c0 w zf gX hl
 ·cases h
end Go.Proofs.YtndddnglapkplaaGreatDoor.V
end

section
namespace Go.Proofs.YtndddnglapkplaaGreatDoor.V
structure Rd (W : World) (g : Nat) (ok : Nat → Prop) (v : Value) (l : List Int) (bad : Bool) : Prop where
 box : bS W g [v, .bool bad] 185
 vw : Kd.V (Kd.int .u8) 5 W 0 ok v l
 ng : ∀ k, ok k → k ≠ g
section
variable {W W1 : World} {g : Nat} {ok : Nat → Prop} {v : Value} {l : List Int} {bad : Bool}
theorem Rd.below (h : Rd W g ok v l bad) (hb : Below W.heap.size W W1) : Rd W1 g ok v l bad := ⟨h.box.below hb, Kd.V_below h.vw hb, h.ng⟩
theorem Rd.grown (h : Rd W g ok v l bad) {row : Option Nat} (hg : W.grownBy W1 row) (hr : ∀ k, ok k → some k ≠ row) (hn : some g ≠ row) : Rd W1 g ok v l bad := ⟨h.box.grown hg hn, Kd.V_grown h.vw hg hr, h.ng⟩
end
def aT (l : List Int) (bad : Bool) (n : Int) : List Int × List Int × Bool := if bad = false ∧ 0 ≤ n ∧ n ≤ l.length then (l.take n.toNat, l.drop n.toNat, false) else ([], l, true)
theorem jP {g : Nat} {ok : Nat → Prop} {v : Value} {l : List Int} {bad : Bool} (W : World) (h : Rd W g ok v l bad) :
  Calls Tryz.prog 95 #[.pointer (some ⟨g, 0, none⟩)] W fun e W' => e = .returned (.bool bad) ∧ Below W.heap.size W W' := by
 have h1 := h.box.cell 1 _ rfl
 clear h
 go_enter Tryz.func95, Tryz.ntmps95
 go_wp2
 go_ret
 exact ⟨rfl, Below.refl _ _⟩
theorem pz {g : Nat} {ok : Nat → Prop} {v : Value} {l : List Int} {bad : Bool} (W : World) (h : Rd W g ok v l bad) :
  Calls Tryz.prog 114 #[.pointer (some ⟨g, 0, none⟩)] W fun e W' => e = .returned (.tuple #[]) ∧ Rd W' g ok v l true ∧ W.grownBy W' (some g) := by
 have hb := h.box
 have H := ak h
 have h1 := h.box.cell 1 _ rfl
 have zs := h.box.frozen 1
 clear h
 go_enter Tryz.func114, Tryz.ntmps114
 go_wp2
 go_end0
 exact ⟨rfl, ⟨hb.set 1 (.bool true), Kd.V_far (p := ⟨g, 1, none⟩) H.out.vw (fun k hk => H.out.ng k hk) _, H.out.ng⟩, cS _ _ _ _⟩
theorem Mg (A : Option Addr) (n c : Nat) (j : Int) (h0 : 0 ≤ j) (hm : j ≤ n) (hc : n ≤ c) : ∀ W : World, (Instr.slice 61 (.slice A n c) none (some (.int .i64 j)) (some (.int .i64 j))).run Tryz.prog W = .ok (.slice A j.toNat j.toNat) W := by
 intro W
 obtain ⟨i, hi, hz⟩ := Option.map_eq_some_iff.1 iU
 have hel : Tryz.prog.elem 61 = 5 := by simp [Program.elem, Tryz.underlying61]
 have hu : Tryz.prog.underlying 61 = some (.slice (Tryz.prog.elem 61)) := by rw [hel]; exact Tryz.underlying61
 have ha : (A.map fun x => x.add 0) = A := by cases A <;> simp [Addr.add]
 rw [run_slice_hm W 61 A n c hu .i64 .i64 j j h0 (Int.le_refl _) (by omega), hel]
 simp [sizeOf, typeInfo, hi, sliced, Result.andThen, ha]
theorem On (A : Option Addr) (n c : Nat) (j : Int) (h0 : 0 ≤ j) (hm : j ≤ n) : ∀ W : World, (Instr.slice 61 (.slice A n c) (some (.int .i64 j)) none none).run Tryz.prog W = .ok (.slice (if c = j.toNat then A else A.map (·.add (j.toNat * 1))) (n - j.toNat) (c - j.toNat)) W := by
 obtain ⟨i, hi, hz⟩ := Option.map_eq_some_iff.1 iU
 simp only [Prod.mk.injEq] at hz
 exact GF 61 5 .i64 Tryz.underlying61 hi 1 hz.2.1 A n c j h0 hm
theorem Kw {W : World} {ok : Nat → Prop} {A : Option Addr} {l : List Int} (hF : Kd.F (Kd.int .u8) W ok A l.length l) (m : Nat) (hm : m ≤ l.length) : Kd.V (Kd.int .u8) 5 W 0 ok (.slice A m m) (l.take m) :=
 ⟨A, m, by rw [List.length_take, Nat.min_eq_left hm], by rw [List.length_take]; omega, Kd.F_take hF hm⟩
theorem Kx {W : World} {ok : Nat → Prop} {A : Option Addr} {l : List Int} {c : Nat} (hF : Kd.F (Kd.int .u8) W ok A l.length l) (m : Nat) (hm : m ≤ l.length) (hc : l.length ≤ c) : Kd.V (Kd.int .u8) 5 W 0 ok (.slice (if c = m then A else A.map (·.add (m * 1))) (l.length - m) (c - m)) (l.drop m) :=
 ⟨_, c - m, by rw [List.length_drop]; rfl, by rw [List.length_drop]; omega, Kd.F_cut hF hm hc⟩
set_option maxHeartbeats 1000000 in
theorem nL {g : Nat} {ok : Nat → Prop} {v : Value} {l : List Int} {bad : Bool} (n : Int) (qH : -9223372036854775808 ≤ n) (mo : n ≤ 9223372036854775807) (W : World) (h : Rd W g ok v l bad) :
  Calls Tryz.prog 90 #[.pointer (some ⟨g, 0, none⟩), .int .i64 n] W fun e W' => ∃ u v', e = .returned u ∧ Kd.V (Kd.int .u8) 5 W' 0 ok u (aT l bad n).1 ∧ Rd W' g ok v' (aT l bad n).2.1 (aT l bad n).2.2 ∧ W.grownBy W' (some g) := by
 have H := ak h
 obtain ⟨A, c, rfl, hc, hF⟩ := h.vw
 have HF := ak hF
 have h0 := h.box.cell 0 _ rfl
 by_cases hg : bad = false ∧ 0 ≤ n ∧ n ≤ l.length
 ·have HP := ak (show aT l bad n = (l.take n.toNat, l.drop n.toNat, false) from if_pos hg)
  obtain ⟨rfl, xQ, dh⟩ := hg
  rw [HP.out]
  have b1 : decide (n < 0) = false := by simp; omega
  have b2 : decide ((l.length : Int) < n) = false := by simp; omega
  have b3 : decide (n > (l.length : Int)) = false := by simp; omega
  have q1 := Mg A l.length c n xQ dh hc
  have q2 := On A l.length c n xQ dh
  have VO := ak (Kw hF n.toNat (by omega))
  have EK := Kx hF n.toNat (by omega) hc
  obtain ⟨A2, EX⟩ : ∃ A2, A2 = (if c = n.toNat then A else A.map (·.add (n.toNat * 1))) := ⟨_, rfl⟩
  rw [← EX] at q2 EK
  have VN := ak EK
  clear EX EK
  clear h hF
  go_enter Tryz.func90, Tryz.ntmps90
  go_wp2_with (first
   | (go_at_call 95; refine (jP _ H.out).mono ?_; rintro e W1 ⟨rfl, aW⟩; have H1 := ak (H.out.below aW); have cP := ak aW; have LX := H1.out.box.cell 0 _ rfl; have zs := H1.out.box.frozen 0; clear h0 aW))
  go_ret
  have hS := cS W1 g 0 (.slice A2 (l.length - n.toNat) (c - n.toNat))
  have hng : ∀ k, ok k → some k ≠ some g := fun k hk e => H.out.ng k hk (Option.some.inj e)
  refine ⟨_, _, rfl, Kd.V_grown (Kd.V_step VO.out (fun k hk hl => cP.out.block k hl)) hS hng, ⟨H1.out.box.set 0 _, Kd.V_grown (Kd.V_step VN.out (fun k hk hl => cP.out.block k hl)) hS hng, H.out.ng⟩, ?_⟩
  exact (df cP.out _).trans hS
 ·have HP := ak (show aT l bad n = ([], l, true) from if_neg hg)
  rw [HP.out]
  clear h hF
  cases hbd : bad with
  | true =>
   subst hbd
   clear hg
   go_enter Tryz.func90, Tryz.ntmps90
   go_wp2_with (first
    | (go_at_call 95; refine (jP _ H.out).mono ?_; rintro e W1 ⟨rfl, aW⟩; have H1 := ak (H.out.below aW); have cP := ak aW; clear h0 aW)
    | (go_at_call 114; refine (pz _ H1.out).mono ?_; rintro e W2 ⟨rfl, hJ, dH⟩; have H2 := ak hJ; have fw := ak dH; clear hJ dH))
   go_ret
   exact ⟨_, _, rfl, Kd.V_nil _ _ _ _ _, H2.out, (df cP.out _).trans fw.out⟩
  | false =>
   subst hbd
   by_cases hneg : n < 0
   ·have b1 : decide (n < 0) = true := by simp; omega
    clear hg
    go_enter Tryz.func90, Tryz.ntmps90
    go_wp2_with (first
     | (go_at_call 95; refine (jP _ H.out).mono ?_; rintro e W1 ⟨rfl, aW⟩; have H1 := ak (H.out.below aW); have cP := ak aW; clear h0 aW)
     | (go_at_call 114; refine (pz _ H1.out).mono ?_; rintro e W2 ⟨rfl, hJ, dH⟩; have H2 := ak hJ; have fw := ak dH; clear hJ dH))
    go_ret
    exact ⟨_, _, rfl, Kd.V_nil _ _ _ _ _, H2.out, (df cP.out _).trans fw.out⟩
   ·have hbig : (l.length : Int) < n := by
     rcases Int.lt_or_le (l.length : Int) n with h | h
     ·exact h
     ·exact absurd ⟨rfl, by omega, h⟩ hg
    have b1 : decide (n < 0) = false := by simp; omega
    have b2 : decide ((l.length : Int) < n) = true := by simp; omega
    clear hg
    go_enter Tryz.func90, Tryz.ntmps90
    go_wp2_with (first
     | (go_at_call 95; refine (jP _ H.out).mono ?_; rintro e W1 ⟨rfl, aW⟩; have H1 := ak (H.out.below aW); have cP := ak aW; have LX := H1.out.box.cell 0 _ rfl; clear h0 aW)
     | (go_at_call 114; refine (pz _ H1.out).mono ?_; rintro e W2 ⟨rfl, hJ, dH⟩; have H2 := ak hJ; have fw := ak dH; clear hJ dH))
    go_ret
    exact ⟨_, _, rfl, Kd.V_nil _ _ _ _ _, H2.out, (df cP.out _).trans fw.out⟩
end Go.Proofs.YtndddnglapkplaaGreatDoor.V
end

