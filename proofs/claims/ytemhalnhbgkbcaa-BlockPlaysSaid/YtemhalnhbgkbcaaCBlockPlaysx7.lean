/- The law BlockPlays for every input: texts of ours, put together (part 8 of 17). No further condition. -/
import Derived.Test.YtemhalnhbgkbcaaCBlockPlaysx2
import Derived.Test.YtemhalnhbgkbcaaCBlockPlaysx6
import Derived.Test.YtemhalnhbgkbcaaCBlockPlaysx5
import Derived.Test.YtemhalnhbgkbcaaCBlockPlaysx3
import Derived.Test.YtemhalnhbgkbcaaCBlockPlaysx4
import Derived.Outline
set_option linter.unusedVariables false
set_option linter.unusedSimpArgs false
open Go.RowKit Go.Proofs.YtemhalnhbgkbcaaW.PrintWords Go.Proofs.YtemhalnhbgkbcaaW.PrintLast Go.Proofs.YtemhalnhbgkbcaaW.PrintMore Go.Proofs.Ytemhalnhbgkbcaa.Z
section
namespace Go.Proofs.Ytemhalnhbgkbcaa.V
theorem Sd (s : Nat) (hs : s < 18446744073709551616) (i : Int) (w : World) : Calls Try.prog 21 #[.int .u64 (s : Int), .int .i64 i] w fun e w' => e = .returned (.int .u64 ((mU s i : Nat) : Int)) ∧ Below w.heap.size w w' :=
 (yO s hs i w).mono (by
  rintro e w' ⟨rfl, ⟨nd, rfl⟩⟩
  exact ⟨rfl, ab (Below.refl _ _) nd⟩)
theorem Lr (s : Nat) (hs : s < 18446744073709551616) (i : Int) (w : World) : Calls Try.prog 20 #[.int .u64 (s : Int), .int .i64 i] w fun e w' => e = .returned (.bool (hasB s i)) ∧ Below w.heap.size w w' :=
 (yf s hs i w).mono (by
  rintro e w' ⟨rfl, ⟨nd, rfl⟩⟩
  exact ⟨rfl, ab (Below.refl _ _) nd⟩)
theorem It (l : List Int) (k : Nat) (h : k < l.length) (m : Int) (hm : l[k] = m) : mU (gy (l.take k)) (m - 1) = gy (l.take (k + 1)) := by
 unfold gy xi
 rw [List.take_succ_eq_append_getElem h, List.map_append, List.foldl_append, hm]
 rfl
theorem KB (l : List Int) (k : Nat) (hk : k < 64) : hasB (gy l) (k : Int) = eL l k := by
 have h1 : (gy l).testBit k = decide ((k : Int) ∈ l.map (fun s => s - 1)) := mI _ k hk
 have h2 : hasB (gy l) (k : Int) = (gy l).testBit k := by
  unfold hasB nK
  have e1 : decide ((0 : Int) ≤ (k : Int)) = true := by simp
  have e2 : decide ((k : Int) < 64) = true := by simp; omega
  rw [e1, e2]
  simp
 rw [h2, h1]
 unfold eL
 rw [Bool.eq_iff_iff, decide_eq_true_eq, List.any_eq_true, List.mem_map]
 constructor
 ·rintro ⟨s, hs, he⟩
  exact ⟨s, hs, by rw [beq_iff_eq]; omega⟩
 ·rintro ⟨s, hs, he⟩
  rw [beq_iff_eq] at he
  exact ⟨s, hs, by omega⟩
def mH (l : List Int) (k s : Nat) : Int := if 1 ≤ s ∧ s ≤ k ∧ eL l (s - 1) = true then ((fZ l s : Nat) : Int) else 0
def iN (l : List Int) (k : Nat) : List Int := (List.range 65).map (mH l k)
theorem uK (l : List Int) (k : Nat) : (iN l k).length = 65 := by simp [iN]
theorem Dt (l : List Int) : iN l 0 = List.replicate 65 0 := by
 unfold iN
 rw [List.eq_replicate_iff]
 refine ⟨by simp, fun x hx => ?_⟩
 obtain ⟨s, _, rfl⟩ := List.mem_map.1 hx
 unfold mH
 rw [if_neg (by omega)]
theorem Fm (l : List Int) (k s : Nat) (hs : s < 65) : (iN l k).getD s 0 = mH l k s := by
 unfold iN
 rw [List.getD_eq_getElem?_getD, List.getElem?_map, List.getElem?_range hs]
 rfl
theorem Du (l : List Int) (k : Nat) (hk : k < 64) (h : eL l k = true) : (iN l k).set (k + 1) ((fZ l (k + 1) : Nat) : Int) = iN l (k + 1) := by
 apply List.ext_getElem?
 intro s
 rw [List.getElem?_set]
 unfold iN
 simp only [List.length_map, List.length_range, List.getElem?_map]
 by_cases hs : k + 1 = s
 ·subst hs
  rw [if_pos rfl, if_pos (by omega), List.getElem?_range (by omega)]
  show some _ = some (mH l (k + 1) (k + 1))
  unfold mH
  rw [if_pos ⟨by omega, by omega, h⟩]
 ·rw [if_neg hs]
  rcases Nat.lt_or_ge s 65 with h1 | h1
  ·rw [List.getElem?_range h1]
   show some (mH l k s) = some (mH l (k + 1) s)
   unfold mH
   by_cases h2 : 1 ≤ s ∧ s ≤ k ∧ eL l (s - 1) = true
   ·rw [if_pos h2, if_pos ⟨h2.1, by omega, h2.2.2⟩]
   ·rw [if_neg h2, if_neg (fun h3 => h2 ⟨h3.1, by omega, h3.2.2⟩)]
  ·rw [List.getElem?_eq_none (by simpa using h1)]
   rfl
theorem Fl (l : List Int) (k : Nat) (h : eL l k = false) : iN l (k + 1) = iN l k := by
 unfold iN
 apply List.map_congr_left
 intro s _
 unfold mH
 by_cases h2 : 1 ≤ s ∧ s ≤ k ∧ eL l (s - 1) = true
 ·rw [if_pos h2, if_pos ⟨h2.1, by omega, h2.2.2⟩]
 ·rw [if_neg h2, if_neg (fun h3 => h2 ⟨h3.1, by
   rcases Nat.lt_or_ge k s with h4 | h4
   ·exfalso
    have : s - 1 = k := by omega
    rw [this, h] at h3
    exact absurd h3.2.2 (by decide)
   ·exact h4, h3.2.2⟩)]
theorem rS (l : List Int) (s : Int) (h : s ∈ l) (h0 : 1 ≤ s) : eL l (s.toNat - 1) = true := by
 unfold eL
 rw [List.any_eq_true]
 exact ⟨s, h, by rw [beq_iff_eq]; omega⟩
theorem Fk (l : List Int) (k : Nat) (s : Int) (hs : s ∈ l) (h0 : 0 ≤ s) (h1 : s ≤ (k : Int)) (h2 : s < 65) : (iN l k).getD s.toNat 0 = ((fZ l s.toNat : Nat) : Int) := by
 rw [Fm _ _ _ (by omega)]
 unfold mH
 by_cases h : 1 ≤ s.toNat
 ·rw [if_pos ⟨h, by omega, rS l s hs (by omega)⟩]
 ·have : s.toNat = 0 := by omega
  rw [this, if_neg (by omega)]
  rfl
def uz (l : List Int) (k : Nat) : List Int := (l.take k).map (fun s => ((fZ l s.toNat : Nat) : Int)) ++ l.drop k
theorem Fz (l : List Int) (k : Nat) : (uz l k).length = l.length := by
 unfold uz
 rw [List.length_append, List.length_map, List.length_take, List.length_drop]
 omega
theorem Kk (l : List Int) : uz l l.length = l.map (fun s => ((fZ l s.toNat : Nat) : Int)) := by simp [uz]
theorem Kj (l : List Int) (k : Nat) (h : k < l.length) : (uz l k).set k ((fZ l (l[k]).toNat : Nat) : Int) = uz l (k + 1) := by
 unfold uz
 have e : ((l.take k).map (fun s => ((fZ l s.toNat : Nat) : Int))).length = k := by rw [List.length_map, List.length_take]; omega
 rw [List.set_append, if_neg (by omega), e, Nat.sub_self, List.drop_eq_getElem_cons h, List.set_cons_zero, List.take_succ_eq_append_getElem h, List.map_append]
 simp
end Go.Proofs.Ytemhalnhbgkbcaa.V
end

section
namespace Go.Proofs.Ytemhalnhbgkbcaa.V
def gf.f (l0 : List Int) : Option (List Int) := if l0.length ≤ 4294967296 then some l0 else none
theorem gf.calls (A0 : Option Addr) (c0 : Nat) (l0 : List Int) (r : List Int) (w : World) (lM : Kd.C (Kd.int .u8) w A0 l0.length l0) (jC : l0.length ≤ c0) (h : gf.f l0 = some r) :
  Calls Try.prog 91 #[.slice A0 l0.length c0] w fun e w' => ∃ m6 : Value, e = .returned m6 ∧ Kd.R (Kd.int .u8) 5 w' w.heap.size (fun _ => True) m6 r ∧ Below w.heap.size w w' := by
 unfold gf.f at h
 split at h
 ·rename_i hl
  obtain rfl := Option.some.inj h
  exact BW l0 A0 c0 w lM jC hl
 ·cases h
end Go.Proofs.Ytemhalnhbgkbcaa.V
end

section
namespace Go.Proofs.Ytemhalnhbgkbcaa.V
attribute [local go_sem] dA dy ed ec cP cN dz dx
mutual
def dg.j0 : Nat → Int → Int → List Int → Bool → Option (List Int)
 | 0, _, _, _, _ => none
 | k + 1, x1, x2, x7, YC => if YC = true then (some x7) else (dg.l0 k x1 x7 (wrap64 (x2 - 1)))
def dg.l0 : Nat → Int → List Int → Int → Option (List Int)
 | 0, _, _, _ => none
 | k + 1, x1, x7, x8 => if x8 ≥ 0 then (if 0 ≤ (wrap64 (8 * x8)) then (if x7.length < 140737488355328 then (dg.l0 k x1 (x7 ++ [(shr .u64 x1 (wrap64 (8 * x8))) % 256]) (wrap64 (x8 - 1))) else (none)) else (none)) else (some x7)
end
def dg.f (k : Nat) (l0 : List Int) (a1 : Int) (a2 : Int) : Option (List Int) := (gf.f l0).bind fun lz => (if a2 < 1 then (dg.j0 k a1 a2 lz true) else (dg.j0 k a1 a2 lz (decide (a2 > 8))))
theorem dg.mono_l : ∀ k, (∀ y0 y1 y2 y3, aC (dg.j0 k y0 y1 y2 y3) (dg.j0 (k + 1) y0 y1 y2 y3)) ∧ (∀ y0 y1 y2, aC (dg.l0 k y0 y1 y2) (dg.l0 (k + 1) y0 y1 y2))
 | 0 => ⟨fun _ _ _ _ r h => by simp [dg.j0] at h, fun _ _ _ r h => by simp [dg.l0] at h⟩
 | k + 1 => by
  obtain ⟨cE, gW⟩ := dg.mono_l k
  refine ⟨?_, ?_⟩
  ·intro y0 y1 y2 y3
   unfold dg.j0
   repeat' first
   | (with_reducible exact cE _ _ _ _)
   | (with_reducible exact gW _ _ _)
   | (with_reducible exact aC.refl _)
   | (with_reducible exact aC.none _)
   | (with_reducible refine aC.ite ?_ ?_)
   | (with_reducible refine aC.bind ?_ (fun _ => ?_))
   | exact cE _ _ _ _
   | exact gW _ _ _
   | exact aC.none _
   | refine aC.ite ?_ ?_
   | refine aC.bind ?_ (fun _ => ?_)
  ·intro y0 y1 y2
   unfold dg.l0
   repeat' first
   | (with_reducible exact cE _ _ _ _)
   | (with_reducible exact gW _ _ _)
   | (with_reducible exact aC.refl _)
   | (with_reducible exact aC.none _)
   | (with_reducible refine aC.ite ?_ ?_)
   | (with_reducible refine aC.bind ?_ (fun _ => ?_))
   | exact cE _ _ _ _
   | exact gW _ _ _
   | exact aC.none _
   | refine aC.ite ?_ ?_
   | refine aC.bind ?_ (fun _ => ?_)
theorem dg.mono : ∀ a0 a1 a2 k, aC (dg.f k a0 a1 a2) (dg.f (k + 1) a0 a1 a2) := by
 intro a0 a1 a2 k
 obtain ⟨cE, gW⟩ := dg.mono_l k
 unfold dg.f
 repeat' first
   | (with_reducible exact cE _ _ _ _)
   | (with_reducible exact gW _ _ _)
   | (with_reducible exact aC.refl _)
   | (with_reducible exact aC.none _)
   | (with_reducible refine aC.ite ?_ ?_)
   | (with_reducible refine aC.bind ?_ (fun _ => ?_))
   | exact cE _ _ _ _
   | exact gW _ _ _
   | exact aC.none _
   | refine aC.ite ?_ ?_
   | refine aC.bind ?_ (fun _ => ?_)
set_option maxHeartbeats 8000000 in
set_option maxRecDepth 100000 in
theorem dg.calls (k : Nat) (A0 : Option Addr) (c0 : Nat) (l0 : List Int) (a1 : Int) (a2 : Int) (r : List Int) (w : World) (lM : Kd.C (Kd.int .u8) w A0 l0.length l0) (jC : l0.length ≤ c0) (h : dg.f k l0 a1 a2 = some r) :
  Calls Try.prog 66 #[.slice A0 l0.length c0, .int .u64 a1, .int .i64 a2] w fun e w' => ∃ m6 : Value, e = .returned (m6) ∧ Kd.R (Kd.int .u8) 5 w' w.heap.size (fun _ => True) m6 r ∧ Below w.heap.size w w' := by
 have n7 := ak lM
 have xT := ak jC
 clear lM jC
 have HB := ak (Below.refl w.heap.size w)
 have H : ((gf.f l0).bind fun lz => (if a2 < 1 then (dg.j0 k a1 a2 lz true) else (dg.j0 k a1 a2 lz (decide (a2 > 8))))) = some r := h
 clear h
 replace H := Option.bind_eq_some_iff.mp H
 obtain ⟨lz, xW, H⟩ := H
 replace H : (if a2 < 1 then (dg.j0 k a1 a2 lz true) else (dg.j0 k a1 a2 lz (decide (a2 > 8)))) = some r := H
 have A4 := ak xW
 clear xW
 have R0 := ak H
 clear H
 go_enter Try.func66, Try.ntmps66
 go_upto_region 2 with (first | ((with_reducible refine dp (f := 91) rfl ?_); refine fQ (some 10) rfl rfl Try.func91 (by kernel_rfl) rfl #[.slice A0 l0.length c0] rfl (by (try simp only [List.map_toArray, List.map_cons, List.map_nil]); first | done | rfl | (simp only [List.length_drop, List.length_take]; rfl)) ?_; (with_reducible refine (gf.calls _ _ l0 lz _ ?side1 ?side2 A4.out).mono ?_); (case side1 => repeat (first | exact n7.out | (with_reducible refine Kd.C_alloc ?_ _) | (with_reducible refine Kd.C_drewN ?_ _) | (with_reducible refine Kd.C_drew ?_))); (case side2 => exact xT.out); rintro e w6 ⟨Qa, rfl, tp, hb⟩; refine ⟨_, rfl, ?_⟩; have bR := ak (Kd.R_lower tp (bo (by repeat (first | (with_reducible first | exact HB.out | apply af | apply ab | apply ai) | exact HB.out)))); have bX := ak (bA (by repeat (first | (with_reducible first | exact HB.out | apply af | apply ab | apply ai) | exact HB.out)) hb); clear HB; have GL := bR; have HB := bX; clear bR bX; (try clear hb); (try clear eX); (try clear hk); (try clear hi); (try clear tp)))
 (try simp only [Act.put, List.setIfInBounds_toArray, List.set_cons_zero, List.set_cons_succ])
 go_cut [16] (fun YU wc => ∃ (kq : Nat) (CZ : Bool), YU = .bool CZ ∧ Aside0 (dg.j0 kq a1 a2 lz CZ = some r) ∧ Aside0 (kq ≤ k) ∧ Aside0 (Kd.R (Kd.int .u8) 5 wc w.heap.size (fun _ => True) Qa lz) ∧ Aside0 (Below w.heap.size w wc))
 case first =>
  have H := R0.out
  clear R0
  by_cases c7 : a2 < 1
  ·rw [if_pos c7] at H
   have lh : decide (a2 < 1) = true := decide_eq_true c7
   clear c7
   (first | rw [lh] | (simp only [iT, jx]; rw [lh]) | skip)
   have H' := ak H
   clear H
   go_wp2
   go_meet
   case rel => exact ⟨_, (true), (by first | rfl | (simp; done) | (simp [*]; done)), H', ⟨by first | omega | exact Nat.le_refl _⟩, ⟨by (with_reducible repeat (first | apply Kd.R_alloc | apply Kd.R_drewN | apply Kd.R_drew)); exact GL.out⟩, ⟨by repeat (first | (with_reducible first | exact HB.out | apply af | apply ab | apply ai) | exact HB.out)⟩⟩
  ·rw [if_neg c7] at H
   have lh : decide (a2 < 1) = false := decide_eq_false c7
   clear c7
   (first | rw [lh] | (simp only [iT, jx]; rw [lh]) | skip)
   have H' := ak H
   clear H
   go_wp2
   go_meet
   case rel => exact ⟨_, (decide (a2 > 8)), (by first | rfl | (simp; done) | (simp [*]; done)), H', ⟨by first | omega | exact Nat.le_refl _⟩, ⟨by (with_reducible repeat (first | apply Kd.R_alloc | apply Kd.R_drewN | apply Kd.R_drew)); exact GL.out⟩, ⟨by repeat (first | (with_reducible first | exact HB.out | apply af | apply ab | apply ai) | exact HB.out)⟩⟩
 case rest =>
  clear R0
  obtain ⟨kq, CZ, rfl, HA, TX, kX, HB⟩ := hcut
  cases kq with
  | zero => exact absurd HA.out (by simp [dg.j0])
  | succ Qq =>
   have H := HA.out
   clear HA
   simp only [dg.j0] at H
   by_cases c8 : CZ = true
   ·subst c8
    have H1 : (some lz) = some r := by rw [if_pos rfl] at H; exact H
    clear H
    have H := H1
    clear H1
    obtain rfl := Option.some.inj H
    go_wp2
    go_ret
    exact ⟨_, by first | rfl | (simp [bf, bd] <;> rfl) | (simp [*, bf, bd] <;> rfl), by (with_reducible repeat (first | apply Kd.R_alloc | apply Kd.R_drewN | apply Kd.R_drew)); exact kX.out, by repeat (first | (with_reducible first | exact HB.out | apply af | apply ab | apply ai) | exact HB.out)⟩
   ·replace c8 := Bool.eq_false_iff.mpr c8
    subst c8
    have H1 : (dg.l0 Qq a1 lz (wrap64 (a2 - 1))) = some r := by rw [if_neg (show ¬ (false = true) by decide)] at H; exact H
    clear H
    have H := H1
    clear H1
    have H' := ak H
    clear H
    go_wp2
    go_loopg [7, 8] Qq (fun kq v7 v8 w' => ∃ (uv : List Int) (qV : Int), v8 = .int .i64 qV ∧ Aside0 (dg.l0 kq a1 uv qV = some r) ∧ Aside0 (kq ≤ Qq) ∧ Aside0 (Kd.R (Kd.int .u8) 5 w' w.heap.size (fun _ => True) v7 uv) ∧ Aside0 (Below w.heap.size w w'))
    case atStart => exact ⟨(lz), (wrap64 (a2 - 1)), (by first | rfl | (simp; done) | (simp [*]; done)), H', ⟨Nat.le_refl _⟩, ⟨by (with_reducible repeat (first | apply Kd.R_alloc | apply Kd.R_drewN | apply Kd.R_drew)); exact kX.out⟩, ⟨by repeat (first | (with_reducible first | exact HB.out | apply af | apply ab | apply ai) | exact HB.out)⟩⟩
    case round =>
     clear H'
     obtain ⟨uv, qV, rfl, HA, lH, kX, HB⟩ := hrel
     cases gk with
     | zero => exact absurd HA.out (by simp [dg.l0])
     | succ k2 =>
      have H := HA.out
      clear HA
      simp only [dg.l0] at H
      by_cases c9 : qV ≥ 0
      ·rw [if_pos c9] at H
       have EF : decide (0 ≤ qV) = true := decide_eq_true c9
       clear c9
       obtain ⟨vX, Hi⟩ : ∃ j_ : Int, (wrap64 (8 * qV)) = j_ := ⟨_, rfl⟩
       replace H : (if 0 ≤ (vX) then (if uv.length < 140737488355328 then (dg.l0 k2 a1 (uv ++ [(shr .u64 a1 (vX)) % 256]) (wrap64 (qV - 1))) else (none)) else (none)) = some r := by first | (rw [Hi] at H; exact H) | (simp only [Hi] at H ⊢; exact H)
       have Y7 : (IntKind.i64.wrap (8 * qV)) = vX := (iT _).trans Hi
       by_cases l7 : 0 ≤ (vX)
       ·rw [if_pos l7] at H
        have zO := eq_true l7
        have C8 : decide (0 ≤ (vX)) = true := decide_eq_true l7
        clear l7
        obtain ⟨BL, C4⟩ : ∃ j_ : Int, (shr .u64 a1 (vX)) = j_ := ⟨_, rfl⟩
        replace H : (if uv.length < 140737488355328 then (dg.l0 k2 a1 (uv ++ [(BL) % 256]) (wrap64 (qV - 1))) else (none)) = some r := by first | (rw [C4] at H; exact H) | (simp only [C4] at H ⊢; exact H)
        have Y6 : (a1 / 2 ^ min (vX).toNat 64) = BL := C4
        have Y5 : (vX) ≤ 64 → (a1 / 2 ^ (vX).toNat) = BL := Cg C4
        by_cases oY : uv.length < 140737488355328
        ·rw [if_pos oY] at H
         have Tn := ak oY
         clear oY
         obtain ⟨Ij, vC⟩ : ∃ y_ : List Int, y_ = (uv ++ [(BL) % 256]) := ⟨_, rfl⟩
         replace H : (dg.l0 k2 a1 Ij (wrap64 (qV - 1))) = some r := by first | (rw [vC]; with_reducible exact H) | (have fx := (Option.bind_some _ _).symm.trans H; rw [vC]; with_reducible exact fx) | (have fx := (Option.bind_some _ _).symm.trans H; with_reducible exact fx) | with_reducible exact H | (rw [vC]; exact H) | exact H
         have PF := ak vC
         clear vC
         have H' := ak H
         clear H
         go_wp2_with (first | ((with_reducible refine cy (b := .append) (xs := #[.tmp 24, .tmp 30]) rfl ?_); at_builtin; refine Kd.R_append (Kd.int .u8) (w0 := w) w.heap.size rfl (.tmp 24) (.tmp 30) 48 5 (.int .u8 0) 1 rfl Try.underlying48 C3 rfl (by decide) (by omega) u7 uv ((BL) % 256) [.int .u8 ((BL) % 256)] (fun _ => True) (fun _ => False) rfl rfl ?aP (fun _ hk => hk.elim) ?aF ?aO ?aB ?aS ?aL ?_; (case aP => exact rfl); (case aB => exact (by repeat (first | (with_reducible first | exact HB.out | apply af | apply ab | apply ai) | exact HB.out))); (case aF => exact (fun _ _ => trivial)); (case aO => exact (by (with_reducible repeat (first | apply Kd.R_alloc | apply Kd.R_drewN | apply Kd.R_drew)); exact kX.out)); (case aS => exact (bo (by repeat (first | (with_reducible first | exact HB.out | apply af | apply ab | apply ai) | exact HB.out)))); (case aL => have := Tn.out; omega); intro YL FV ho hb hg hat; rw [← PF.out] at ho; have bR := ak (hb); have bX := ak (ho); clear HB; clear kX; have HB := bR; have PO := bX; clear bR bX; clear ho hb hg hat))
         go_roundg k2
         case measure => have := TX.out; have := lH.out; omega
         case rel => exact ⟨(Ij), (wrap64 (qV - 1)), (by first | rfl | (simp; done) | (simp [*]; done)), H', ⟨by have := TX.out; have := lH.out; omega⟩, ⟨by (with_reducible repeat (first | apply Kd.R_alloc | apply Kd.R_drewN | apply Kd.R_drew)); exact PO.out⟩, ⟨by repeat (first | (with_reducible first | exact HB.out | apply af | apply ab | apply ai) | exact HB.out)⟩⟩
        ·rw [if_neg oY] at H
         exact absurd H (by simp)
       ·rw [if_neg l7] at H
        exact absurd H (by simp)
      ·rw [if_neg c9] at H
       have EF : decide (0 ≤ qV) = false := decide_eq_false c9
       clear c9
       obtain rfl := Option.some.inj H
       go_wp2
       go_ret
       exact ⟨_, by first | rfl | (simp [bf, bd] <;> rfl) | (simp [*, bf, bd] <;> rfl), by (with_reducible repeat (first | apply Kd.R_alloc | apply Kd.R_drewN | apply Kd.R_drew)); exact kX.out, by repeat (first | (with_reducible first | exact HB.out | apply af | apply ab | apply ai) | exact HB.out)⟩
end Go.Proofs.Ytemhalnhbgkbcaa.V
end

section
namespace Go.Proofs.Ytemhalnhbgkbcaa.V
attribute [local go_sem] dA dy ed ec cP cN dz dx
def jW.f (k : Nat) (l0 : List Int) (a1 : ByteArray) : Option (List Int × Int) := if (a1.size : Int) > 64 then (some (([] : List Int), 1)) else ((dg.f k l0 (IntKind.u64.wrap ((a1.size : Int))) 1).bind fun lr => (if lr.length + a1.size < 140737488355328 then (some ((lr ++ bytesOf a1), 0)) else (none)))
theorem jW.mono : ∀ a0 a1 k, aC (jW.f k a0 a1) (jW.f (k + 1) a0 a1) := by
 intro a0 a1 k
 unfold jW.f
 repeat' first
   | (with_reducible exact dg.mono _ _ _ _)
   | (with_reducible exact aC.refl _)
   | (with_reducible exact aC.none _)
   | (with_reducible refine aC.ite ?_ ?_)
   | (with_reducible refine aC.bind ?_ (fun _ => ?_))
   | exact dg.mono _ _ _ _
   | exact aC.none _
   | refine aC.ite ?_ ?_
   | refine aC.bind ?_ (fun _ => ?_)
set_option maxHeartbeats 8000000 in
set_option maxRecDepth 100000 in
theorem jW.calls (k : Nat) (A0 : Option Addr) (c0 : Nat) (l0 : List Int) (a1 : ByteArray) (r1 : List Int) (r2 : Int) (w : World) (lM : Kd.C (Kd.int .u8) w A0 l0.length l0) (jC : l0.length ≤ c0) (h : jW.f k l0 a1 = some (r1, r2)) :
  Calls Try.prog 101 #[.slice A0 l0.length c0, .string a1] w fun e w' => ∃ m6 : Value, e = .returned (.tuple #[m6, .int .i64 r2]) ∧ Kd.R (Kd.int .u8) 5 w' w.heap.size (fun _ => True) m6 r1 ∧ Below w.heap.size w w' := by
 have n7 := ak lM
 have xT := ak jC
 clear lM jC
 have HB := ak (Below.refl w.heap.size w)
 have H : (if (a1.size : Int) > 64 then (some (([] : List Int), 1)) else ((dg.f k l0 (IntKind.u64.wrap ((a1.size : Int))) 1).bind fun lr => (if lr.length + a1.size < 140737488355328 then (some ((lr ++ bytesOf a1), 0)) else (none)))) = some (r1, r2) := h
 clear h
 by_cases c3 : (a1.size : Int) > 64
 ·rw [if_pos c3] at H
  have kT : decide (64 < (a1.size : Int)) = true := decide_eq_true c3
  have qj : decide (64 < a1.size) = true := decide_eq_true (by omega)
  clear c3
  simp only [Option.some.injEq, Prod.mk.injEq] at H
  obtain ⟨rfl, rfl⟩ := H
  go_enter Try.func101, Try.ntmps101
  go_wp2
  go_ret2
  exact ⟨_, by first | rfl | (simp [bf, bd] <;> rfl) | (simp [*, bf, bd] <;> rfl), by first | exact Kd.R_nil _ _ _ _ _ | exact Kd.N_nil _ _ _ _ _ | exact Kd.V_nil _ _ _ _ _ | exact Kd.Q_nil _ _ _ _ _ | exact Kd.S_nil _ _ _ _ _, by repeat (first | (with_reducible first | exact HB.out | apply af | apply ab | apply ai) | exact HB.out)⟩
 ·rw [if_neg c3] at H
  have kT : decide (64 < (a1.size : Int)) = false := decide_eq_false c3
  have qj : decide (64 < a1.size) = false := decide_eq_false (by omega)
  clear c3
  replace H := Option.bind_eq_some_iff.mp H
  obtain ⟨lr, xW, H⟩ := H
  replace H : (if lr.length + a1.size < 140737488355328 then (some ((lr ++ bytesOf a1), 0)) else (none)) = some (r1, r2) := H
  have A4 := ak xW
  clear xW
  by_cases c5 : lr.length + a1.size < 140737488355328
  ·rw [if_pos c5] at H
   have KT := ak c5
   clear c5
   obtain ⟨FO, sx⟩ : ∃ y_ : List Int, y_ = (lr ++ bytesOf a1) := ⟨_, rfl⟩
   replace H : (some (FO, 0)) = some (r1, r2) := by first | (rw [sx]; with_reducible exact H) | (have fx := (Option.bind_some _ _).symm.trans H; rw [sx]; with_reducible exact fx) | (have fx := (Option.bind_some _ _).symm.trans H; with_reducible exact fx) | with_reducible exact H | (rw [sx]; exact H) | exact H
   have KR := ak sx
   clear sx
   simp only [Option.some.injEq, Prod.mk.injEq] at H
   obtain ⟨rfl, rfl⟩ := H
   go_enter Try.func101, Try.ntmps101
   go_wp2_with (first | ((with_reducible refine dp (f := 66) rfl ?_); refine fQ (some 13) rfl rfl Try.func66 (by kernel_rfl) rfl #[.slice A0 l0.length c0, .int .u64 (IntKind.u64.wrap ((a1.size : Int))), .int .i64 1] rfl (by (try simp only [List.map_toArray, List.map_cons, List.map_nil]); first | done | rfl | (simp only [List.length_drop, List.length_take]; rfl)) ?_; (with_reducible refine (dg.calls k _ _ l0 (IntKind.u64.wrap ((a1.size : Int))) 1 lr _ ?side1 ?side2 A4.out).mono ?_); (case side1 => repeat (first | exact n7.out | (with_reducible refine Kd.C_alloc ?_ _) | (with_reducible refine Kd.C_drewN ?_ _) | (with_reducible refine Kd.C_drew ?_))); (case side2 => exact xT.out); rintro e w6 ⟨NS, rfl, tp, hb⟩; refine ⟨_, rfl, ?_⟩; have bR := ak (Kd.R_lower tp (bo (by repeat (first | (with_reducible first | exact HB.out | apply af | apply ab | apply ai) | exact HB.out)))); have bX := ak (bA (by repeat (first | (with_reducible first | exact HB.out | apply af | apply ab | apply ai) | exact HB.out)) hb); clear HB; have E6 := bR; have HB := bX; clear bR bX; (try clear hb); (try clear eX); (try clear hk); (try clear hi); (try clear tp)) | (at_builtin; refine si (w0 := w) w.heap.size rfl (.tmp 13) _ 48 9 5 rfl Try.underlying48 Try.underlying9 C3 NS lr a1 rfl rfl ?aO ?aB ?aS ?aL ?_; (case aB => exact (by repeat (first | (with_reducible first | exact HB.out | apply af | apply ab | apply ai) | exact HB.out))); (case aO => exact (Kd.own_of_R (by (with_reducible repeat (first | apply Kd.R_alloc | apply Kd.R_drewN | apply Kd.R_drew)); exact E6.out))); (case aS => exact (bo (by repeat (first | (with_reducible first | exact HB.out | apply af | apply ab | apply ai) | exact HB.out)))); (case aL => have := KT.out; omega); intro NR w7 tp hb hg; have ho := Kd.R_of_own (h1 := fun _ => rfl) (ok := fun _ => True) tp (fun _ _ => trivial); clear tp; have hat := True.intro; rw [← KR.out] at ho; change Kd.R (Kd.int .u8) 5 w7 w.heap.size (fun _ => True) NR FO at ho; have bR := ak (hb); have bX := ak (ho); clear HB; clear E6; have HB := bR; have KY := bX; clear bR bX; clear ho hb hg hat))
   go_ret2
   exact ⟨_, by first | rfl | (simp [bf, bd] <;> rfl) | (simp [*, bf, bd] <;> rfl), by (with_reducible repeat (first | apply Kd.R_alloc | apply Kd.R_drewN | apply Kd.R_drew)); exact KY.out, by repeat (first | (with_reducible first | exact HB.out | apply af | apply ab | apply ai) | exact HB.out)⟩
  ·rw [if_neg c5] at H
   exact absurd H (by simp)
end Go.Proofs.Ytemhalnhbgkbcaa.V
end

section
namespace Go.Proofs.Ytemhalnhbgkbcaa.V
attribute [local go_sem] dA dy ed ec cP cN dz dx
def nL.f (k : Nat) (l0 : List Int) (a1 : ByteArray) : Option (List Int) := (jW.f k l0 a1).bind fun BZ => (some BZ.1)
theorem nL.mono : ∀ a0 a1 k, aC (nL.f k a0 a1) (nL.f (k + 1) a0 a1) := by
 intro a0 a1 k
 unfold nL.f
 repeat' first
   | (with_reducible exact jW.mono _ _ _)
   | (with_reducible exact aC.refl _)
   | (with_reducible exact aC.none _)
   | (with_reducible refine aC.ite ?_ ?_)
   | (with_reducible refine aC.bind ?_ (fun _ => ?_))
   | exact jW.mono _ _ _
   | exact aC.none _
   | refine aC.ite ?_ ?_
   | refine aC.bind ?_ (fun _ => ?_)
set_option maxHeartbeats 8000000 in
set_option maxRecDepth 100000 in
theorem nL.calls (k : Nat) (A0 : Option Addr) (c0 : Nat) (l0 : List Int) (a1 : ByteArray) (r : List Int) (w : World) (lM : Kd.C (Kd.int .u8) w A0 l0.length l0) (jC : l0.length ≤ c0) (h : nL.f k l0 a1 = some r) :
  Calls Try.prog 67 #[.slice A0 l0.length c0, .string a1] w fun e w' => ∃ m6 : Value, e = .returned (m6) ∧ Kd.R (Kd.int .u8) 5 w' w.heap.size (fun _ => True) m6 r ∧ Below w.heap.size w w' := by
 have n7 := ak lM
 have xT := ak jC
 clear lM jC
 have HB := ak (Below.refl w.heap.size w)
 have H : ((jW.f k l0 a1).bind fun BZ => (some BZ.1)) = some r := h
 clear h
 replace H := Option.bind_eq_some_iff.mp H
 obtain ⟨⟨Ix, Qd⟩, nJ, H⟩ := H
 replace H : (some Ix) = some r := H
 have A3 := ak nJ
 clear nJ
 obtain rfl := Option.some.inj H
 go_enter Try.func67, Try.ntmps67
 go_wp2_with (first | ((with_reducible refine dp (f := 101) rfl ?_); refine fQ (some 10) rfl rfl Try.func101 (by kernel_rfl) rfl #[.slice A0 l0.length c0, .string a1] rfl (by (try simp only [List.map_toArray, List.map_cons, List.map_nil]); first | done | rfl | (simp only [List.length_drop, List.length_take]; rfl)) ?_; (with_reducible refine (jW.calls k _ _ l0 a1 Ix Qd _ ?side1 ?side2 A3.out).mono ?_); (case side1 => repeat (first | exact n7.out | (with_reducible refine Kd.C_alloc ?_ _) | (with_reducible refine Kd.C_drewN ?_ _) | (with_reducible refine Kd.C_drew ?_))); (case side2 => exact xT.out); rintro e w4 ⟨YK, rfl, tp, hb⟩; refine ⟨_, rfl, ?_⟩; have bR := ak (Kd.R_lower tp (bo (by repeat (first | (with_reducible first | exact HB.out | apply af | apply ab | apply ai) | exact HB.out)))); have bX := ak (bA (by repeat (first | (with_reducible first | exact HB.out | apply af | apply ab | apply ai) | exact HB.out)) hb); clear HB; have PN := bR; have HB := bX; clear bR bX; (try clear hb); (try clear eX); (try clear hk); (try clear hi); (try clear tp)))
 go_ret
 exact ⟨_, by first | rfl | (simp [bf, bd] <;> rfl) | (simp [*, bf, bd] <;> rfl), by (with_reducible repeat (first | apply Kd.R_alloc | apply Kd.R_drewN | apply Kd.R_drew)); exact PN.out, by repeat (first | (with_reducible first | exact HB.out | apply af | apply ab | apply ai) | exact HB.out)⟩
end Go.Proofs.Ytemhalnhbgkbcaa.V
end

section
namespace Go.Proofs.Ytemhalnhbgkbcaa.V
theorem qb {s : ByteArray} (h : fX s = true) : 0 < s.size ∧ s.size ≤ 64 := by
 unfold fX at h
 simp only [Bool.and_eq_true, decide_eq_true_eq] at h
 exact ⟨h.1.2, h.2⟩
structure RightP (b : Bk) : Prop where
 first : cC b.addr = b.addr
 owner : gg b.aff = true
 na : b.attrs.length ≤ 64
 sa : ∀ s ∈ b.slots, s ≤ (b.attrs.length : Int)
 may : ∀ j, j < b.attrs.length → fj (iR b.attrs j) = true
 nd : ∀ j, j < b.attrs.length → (b.attrs.take j).any (sameAt (iR b.attrs j)) = false
 used : (iO (gy b.slots)).length = b.attrs.length
 fr : ∀ j, j < b.free.length → jF b j = false
 zc : b.slots.countP (fun x => x == 0) = b.free.length
theorem jD {b : Bk} (h : eE b = true) : RightP b := by
 unfold eE lu lE at h
 simp only [Bool.and_eq_true, decide_eq_true_eq, List.all_eq_true, beq_iff_eq, List.mem_range, Bool.not_eq_true'] at h
 obtain ⟨h1, h2, h3, ⟨h4, h5, h6⟩, h7, h8⟩ := h
 exact ⟨h1, h2, h3, h4, fun j hj => (h5 j hj).1, fun j hj => (h5 j hj).2, h6, h7, h8⟩
theorem RightP.free_len {b : Bk} (h : RightP b) (hl : b.slots.length = 64) : b.free.length ≤ 64 := by
 rw [← h.zc, ← hl]
 exact List.countP_le_length
def yd.T9 : Bool × List (List Nat × List Nat) := (true, [([], []), ([], []), ([1], [1]), ([0, 2], [0, 2]), ([], []), ([4], [4]), ([3, 5, 3], [3, 5]), ([6, 6, 0, 1, 2, 3, 4, 5, 6], [0, 6])])
def yd.B9 : List Nat := [0, 0, 2, 7, 0, 16, 63, 127]
theorem yd.tab9 : eI .any (opsOf Try.f32 9) = yd.T9 := by kernel_rfl
theorem yd.bits9 : eb yd.T9.2 yd.B9 = true := by kernel_rfl
end Go.Proofs.Ytemhalnhbgkbcaa.V
end

section
namespace Go.Proofs.Ytemhalnhbgkbcaa.V
theorem yR (xs ys : List Int) (h : xs.Nodup) (hs : ∀ x ∈ xs, x ∈ ys) : xs.length ≤ ys.length := h.length_le_of_subset hs
theorem yA (s n : Nat) : (k8 s n).Nodup := by
 unfold k8 List.Nodup
 rw [List.pairwise_map]
 exact (List.Pairwise.filter _ List.nodup_range).imp (fun {a b} h e => h (by omega))
theorem NU (l : List Int) : (iO (gy l)).length ≤ (l.filter (fun x => decide (1 ≤ x))).length := by
 have h : (iO (gy l)).length ≤ ((l.filter (fun x => decide (1 ≤ x))).map (fun s => s - 1)).length := by
  refine yR _ _ (yA _ 64) (fun x hx => ?_)
  obtain ⟨i, rfl, hi, ht⟩ := qX _ _ x hx
  unfold gy at ht
  rw [mI _ i hi, decide_eq_true_eq, List.mem_map] at ht
  obtain ⟨s, hs, he⟩ := ht
  exact List.mem_map.2 ⟨s, List.mem_filter.2 ⟨hs, by simp; omega⟩, he⟩
 simpa using h
theorem JU (l : List Int) (h : pI l) : (l.filter (fun x => decide (1 ≤ x))).length + l.countP (fun x => x == 0) = l.length := by
 induction l with
 | nil => rfl
 | cons x l ih =>
  have h1 := ih (fun y hy => h y (by simp [hy]))
  have h2 := h x (by simp)
  by_cases hx : x = 0
  ·subst hx
   simp only [List.filter_cons, List.countP_cons, List.length_cons]
   simp
   omega
  ·have h3 : 1 ≤ x := by omega
   simp only [List.filter_cons, List.countP_cons, List.length_cons]
   simp [hx, h3]
   omega
theorem RightP.sum_le {b : Bk} (h : RightP b) (hk : BkOk b) (hl : b.slots.length = 64) : b.attrs.length + b.free.length ≤ 64 := by
 have h1 := NU b.slots
 have h2 := JU b.slots hk.s8
 rw [h.used] at h1
 rw [h.zc, hl] at h2
 omega
end Go.Proofs.Ytemhalnhbgkbcaa.V
end

section
namespace Go.Proofs.Ytemhalnhbgkbcaa.V
structure RelOk (b : Bk) (s : Bk × List Int) (n : Nat) : Prop where
 addr : s.1.addr = b.addr
 aff : s.1.aff = b.aff
 attrs : s.1.attrs = b.attrs
 l64 : s.1.slots.length = 64
 s8 : pI s.1.slots
 f8 : pI s.1.free
 le : ∀ x ∈ s.1.slots, x ≤ (b.attrs.length : Int)
 fl : s.1.free.length ≤ b.free.length + n
 ol : s.2.length ≤ n
theorem xz {b : Bk} {x : Int} (h : ku b x = true) : 0 ≤ x - b.addr ∧ x - b.addr < 64 ∧ cC x = b.addr ∧ (b.slots.getD (x - b.addr).toNat 0 != 0) = true := by
 unfold ku at h
 rw [Bool.and_eq_true, decide_eq_true_eq] at h
 obtain ⟨h1, h2⟩ := h
 refine ⟨?_, ?_, h1, h2⟩ <;> (unfold cC at h1; omega)
theorem zA {l : List Int} {i : Nat} {x y : Int} (h : y ∈ l.set i x) : y ∈ l ∨ y = x := List.mem_or_eq_of_mem_set h
theorem NZ {b : Bk} {s : Bk × List Int} {n : Nat} (h : RelOk b s n) (x : Int) : RelOk b (relF s x) (n + 1) := by
 unfold relF
 by_cases hh : ku s.1 x = true
 ·rw [if_pos hh]
  obtain ⟨h1, h2, _, _⟩ := xz hh
  refine ⟨h.addr, h.aff, h.attrs, by simpa using h.l64, fun y hy => ?_, fun y hy => ?_, fun y hy => ?_, ?_, ?_⟩
  ·rcases zA hy with hy | rfl
   ·exact h.s8 y hy
   ·omega
  ·rcases List.mem_append.1 hy with hy | hy
   ·exact h.f8 y hy
   ·rw [List.mem_singleton] at hy
    subst hy
    omega
  ·rcases zA hy with hy | rfl
   ·exact h.le y hy
   ·omega
  ·show (s.1.free ++ [x - s.1.addr]).length ≤ _
   have := h.fl
   rw [List.length_append, List.length_singleton]
   omega
  ·show (s.2 ++ [x]).length ≤ _
   have := h.ol
   rw [List.length_append, List.length_singleton]
   omega
 ·rw [if_neg hh]
  exact ⟨h.addr, h.aff, h.attrs, h.l64, h.s8, h.f8, h.le, by have := h.fl; omega, by have := h.ol; omega⟩
theorem uW {b : Bk} (hk : BkOk b) (hp : RightP b) (hl : b.slots.length = 64) (l : List Int) : ∀ k, k ≤ l.length → RelOk b (relL b (l.take k)) k := by
 intro k
 induction k with
 | zero => intro _; exact ⟨rfl, rfl, rfl, hl, hk.s8, hk.f8, hp.sa, Nat.le_refl _, Nat.le_refl _⟩
 | succ k ih =>
  intro h
  rw [List.take_succ_eq_append_getElem (by omega), Ci]
  exact NZ (ih (by omega)) _
theorem Ch (b : Bk) (l : List Int) (k : Nat) (h : k < l.length) (x : Int) (hx : l[k] = x) : relL b (l.take (k + 1)) = relF (relL b (l.take k)) x := by
 rw [List.take_succ_eq_append_getElem h, Ci, hx]
end Go.Proofs.Ytemhalnhbgkbcaa.V
end

section
namespace Go.Proofs.Ytemhalnhbgkbcaa.V
theorem pJ {α : Type} {d : Kd α} {e base n c : Nat} {ok : Nat → Prop} {W : World} {A : Option Addr} {xs : List α} (h : d.R e W base ok (.slice A n c) xs) (hn : 0 < xs.length) : ∃ g, A = some ⟨g, 0, none⟩ := by
 have hl := (Kd.R_reads' h).1
 obtain ⟨_, inner, ho, _⟩ := h
 rcases ho.2 with ⟨hv, h0⟩ | ⟨g', cap', cur, hv, _⟩
 ·injection hv with h1 h2 h3
  omega
 ·injection hv with h1 h2 h3
  exact ⟨g', h1⟩
theorem Gx {e base n cap g : Nat} {ok : Nat → Prop} : ∀ (m o : Nat) (W : World) (xs : List Int), o + m ≤ n → Kd.R (Kd.int .u8) e W base ok (.slice (some ⟨g, 0, none⟩) n cap) xs →
  ∃ ys, ys.length = xs.length ∧ ys.take o = xs.take o ∧ Kd.R (Kd.int .u8) e (W.setCells g o (List.replicate m (.int .u8 0))) base ok (.slice (some ⟨g, 0, none⟩) n cap) ys ∧ W.grownBy (W.setCells g o (List.replicate m (.int .u8 0))) (some g)
 | 0, o, W, xs, _, h => ⟨xs, rfl, rfl, h, ⟨rfl, rfl, rfl, Nat.le_refl _, fun _ _ _ => rfl⟩⟩
 | m + 1, o, W, xs, ho, h => by
  have hn := (Kd.R_reads' h).1
  obtain ⟨ce, hcl, _, hcc, _⟩ := Kd.R_elem h 0 (o : Int) (by omega) (by omega)
  obtain ⟨u, rfl⟩ := List.length_eq_one_iff.1 (show ce.length = 1 from hcl)
  have hsg := Kd.R_seg h (o : Int) (by omega) (by omega) (seg := [.int .u8 0]) (j := 0) (x' := (0 : Int)) (okp := fun _ => False) hcl hcc (Nat.le_refl 1) rfl (fun _ h => h.elim)
  have e1 : ((o : Int).toNat * (Kd.int .u8).sz + 0) = o := by show (o : Int).toNat * 1 + 0 = o; omega
  rw [e1] at hsg
  obtain ⟨ys, hl, ht, hr, hg⟩ := Gx m (o + 1) _ _ (by omega) hsg.1
  refine ⟨ys, by rw [hl, List.length_set], ?_, hr, ?_⟩
  ·have h2 := congrArg (List.take o) ht
   rw [List.take_take, List.take_take, show min o (o + 1) = o by omega] at h2
   rw [h2, List.take_set_of_le (by omega)]
  ·exact ⟨hg.os.trans hsg.2.os, hg.tape.trans hsg.2.tape, hg.output.trans hsg.2.output, Nat.le_trans hsg.2.size hg.size, fun k hk hne => (hg.block k (Nat.lt_of_lt_of_le hk hsg.2.size) hne).trans (hsg.2.block k hk hne)⟩
theorem LQ {e base n cap g : Nat} {ok : Nat → Prop} {W : World} {xs : List Int} (h : Kd.R (Kd.int .u8) e W base ok (.slice (some ⟨g, 0, none⟩) n cap) xs) (j : Nat) (hj : j < n) : (∃ u, W.cell? ⟨g, j, none⟩ = some u) ∧ W.frozen? ⟨g, j, none⟩ = false := by
 obtain ⟨ce, hcl, _, hcc, hcf⟩ := Kd.R_elem h 0 (j : Int) (by omega) (by omega)
 obtain ⟨u, rfl⟩ := List.length_eq_one_iff.1 (show ce.length = 1 from hcl)
 have e1 : ((j : Int).toNat * (Kd.int .u8).sz + 0) = j := by show (j : Int).toNat * 1 + 0 = j; omega
 have h1 := hcc 0 u rfl
 have h2 := hcf 0
 rw [e1] at h1 h2
 exact ⟨⟨u, h1⟩, h2⟩
theorem P0 (w : World) : (zeroValue 5).run Try.prog w = .ok (.int .u8 0) w := by kernel_rfl
def g7 (i : Int) (x : Int) : Bool := !(x == i)
theorem I1 (xs L : List Int) (i : Int) (j ii : Nat) (hj : j < xs.length) (hl : L.length = xs.length) (hij : ii < j) (h1 : L.take ii = (xs.take j).filter (g7 i)) (h2 : L.drop j = xs.drop j) (hk : (xs[j] == i) = false) :
  (L.set ii xs[j]).length = xs.length ∧ (L.set ii xs[j]).take (ii + 1) = (xs.take (j + 1)).filter (g7 i) ∧ (L.set ii xs[j]).drop (j + 1) = xs.drop (j + 1) := by
 refine ⟨by simpa using hl, ?_, ?_⟩
 ·rw [List.take_add_one, List.take_set_of_le (by omega), List.getElem?_set_self (by omega), h1, List.take_succ_eq_append_getElem hj, List.filter_append]
  congr 1
  simp [g7, hk]
 ·rw [List.drop_set_of_lt (by omega)]
  have := congrArg (List.drop 1) h2
  rwa [List.drop_drop, List.drop_drop] at this
theorem Jj (xs L : List Int) (i : Int) (j ii : Nat) (hj : j < xs.length) (h1 : L.take ii = (xs.take j).filter (g7 i)) (h2 : L.drop j = xs.drop j) (hk : (xs[j] == i) = true) :
  L.take ii = (xs.take (j + 1)).filter (g7 i) ∧ L.drop (j + 1) = xs.drop (j + 1) := by
 refine ⟨?_, ?_⟩
 ·rw [h1, List.take_succ_eq_append_getElem hj, List.filter_append]
  congr 1
  simp [g7, hk]
 ·have := congrArg (List.drop 1) h2
  rwa [List.drop_drop, List.drop_drop] at this
theorem Hn (xs : List Int) (i : Int) (k : Nat) (hk : k < xs.length) (h : (xs[k] == i) = true) (hn : ∀ j (hj : j < k), (xs[j] == i) = false) : xs.take k = (xs.take (k + 1)).filter (g7 i) := by
 rw [List.take_add_one, List.getElem?_eq_getElem hk, List.filter_append]
 have e : (xs.take k).filter (g7 i) = xs.take k := by
  rw [List.filter_eq_self]
  intro x hx
  obtain ⟨j, hj, rfl⟩ := List.mem_iff_getElem.1 hx
  rw [List.length_take] at hj
  have := hn j (by omega)
  rw [List.getElem_take]
  simp [g7, this]
 rw [e]
 simp [g7, h]
theorem KH (xs L : List Int) (j : Nat) (hj : j < xs.length) (hl : L.length = xs.length) (h : L.drop j = xs.drop j) : rd L j = xs[j] := by
 have h1 := congrArg (fun l => l[0]?) h
 simp only [List.getElem?_drop, Nat.add_zero] at h1
 rw [List.getElem?_eq_getElem (by omega), List.getElem?_eq_getElem hj] at h1
 simp only [rd, List.getD, Int.toNat_natCast]
 rw [List.getElem?_eq_getElem (by omega)]
 exact Option.some.inj h1
set_option maxHeartbeats 8000000 in
set_option maxRecDepth 100000 in
theorem BU (xs : List Int) (hu : pI xs) (hl : xs.length ≤ 1000) (A : Option Addr) (c : Nat) (i : Int) (g b1 : Nat) (w : World) (hR : Kd.R (Kd.int .u8) 5 w b1 (fun _ => True) (.slice A xs.length c) xs) (hX : aX w g [.int .i64 i] 3) (cI : b1 ≤ w.heap.size) :
  Calls Try.prog 93 #[.slice A xs.length c, Q9 g] w fun e w' => ∃ v, e = .returned v ∧ Kd.R (Kd.int .u8) 5 w' b1 (fun _ => True) v (xs.filter (g7 i)) ∧ Below b1 w w' ∧ iF (fun k => some k = (Value.slice A xs.length c).ownBlock) w w' := by
 have hC := (Kd.R_reads' hR).2.2
 have hcap := (Kd.R_reads' hR).2.1
 have HR := ak hR
 have HX := ak hX
 have HU := ak hu
 have cG := ak cI
 have HIF := ak (CT xs hu hl A c i g w hC hX)
 clear hX hu cI hC
 cases hi : uD xs i with
 | none =>
  rw [hi] at HIF
  have HF := ak (show xs.filter (g7 i) = xs from List.filter_eq_self.2 (fun x hx => by simp [g7, I4 hi x hx]))
  clear hi hR
  go_enter Try.func93, Try.ntmps93
  go_wp2_with (go_at_call 111; refine (HIF.out).mono ?_; rintro e W1 ⟨rfl, cI⟩; have HB := ak cI; clear cI; unfold uC)
  go_ret
  exact ⟨_, rfl, by rw [HF.out]; exact Kd.R_below HR.out HB.out, HB.out.mono cG.out, iF.of_below HB.out⟩
 | some k0 =>
  rw [hi] at HIF
  obtain ⟨QA, TK, n5⟩ := I3 hi
  obtain ⟨gr, rfl⟩ := pJ hR (Nat.lt_of_le_of_lt (Nat.zero_le _) QA)
  have H1 := ak (Hn xs i k0 QA TK n5)
  have vJ : ((k0 : Int) == (-1 : Int)) = false := by rw [beq_eq_false_iff_ne]; omega
  have HGR := ak (Kd.R_base hR gr rfl)
  clear hi hR TK n5
  go_enter Try.func93, Try.ntmps93
  go_wp2_with (go_at_call 111; refine (HIF.out).mono ?_; rintro e W1 ⟨rfl, cI⟩; have HB := ak cI; clear cI; unfold uC)
  go_loopw [5, 6, 7] (fun t j _ W => ∃ (jj ii : Nat) (L : List Int), jj ≤ xs.length ∧ ii < jj ∧ t = .int .i64 ii ∧ j = .int .i64 jj ∧ Aside0 (L.length = xs.length) ∧ Aside0 (L.take ii = (xs.take jj).filter (g7 i)) ∧ Aside0 (L.drop jj = xs.drop jj) ∧ Aside0 (Kd.R (Kd.int .u8) 5 W b1 (fun _ => True) (.slice (some ⟨gr, 0, none⟩) xs.length c) L) ∧ Aside0 (aX W g [.int .i64 i] 3) ∧ Aside0 (Below b1 w W) ∧ Aside0 (iF (fun k => some k = some gr) w W)) (fun _ j _ _ => xs.length - (intOf j).toNat)
  case atStart => exact ⟨k0 + 1, k0, xs, by omega, by omega, rfl, by go_num, ⟨rfl⟩, H1, ⟨rfl⟩, ⟨Kd.R_below HR.out HB.out⟩, ⟨HX.out.below HB.out⟩, ⟨HB.out.mono cG.out⟩, ⟨iF.of_below HB.out⟩⟩
  case round =>
   clear HB H1 vJ QA
   obtain ⟨jj, ii, L, hjj, hij, rfl, rfl, HL, HT, HD, HRL, HXL, HBL, HKL⟩ := hrel
   obtain ⟨W, rfl⟩ : ∃ W : World, W = wr := ⟨_, rfl⟩
   by_cases hlt : jj < xs.length
   ·have hkb : decide ((jj : Int) < (xs.length : Int)) = true := by simp; omega
    have hLl := HL.out
    obtain ⟨ad, eA, hx⟩ := Kd.at_int (Kd.R_reads' HRL.out).2.2 jj (by omega) (by omega)
    clear hLl
    cases eA
    rw [Int.toNat_natCast, add_plain] at hx
    have p1 : ((jj : Int) < (xs.length : Int)) = True := eq_true (by omega)
    have hrd := KH xs L jj hlt HL.out HD.out
    have h0 : 0 ≤ xs[jj] ∧ xs[jj] < 256 := HU.out _ (List.getElem_mem hlt)
    obtain ⟨x, hxx⟩ : ∃ x, x = xs[jj] := ⟨_, rfl⟩
    rw [← hxx] at hrd h0
    rw [hrd] at hx
    have HXK := ak hxx
    clear hrd hxx
    cases hq : (x == i) with
    | true =>
     have HQ := ak hq
     clear hq
     have HG := ak (Jj xs L i jj ii hlt HT.out HD.out (by rw [← HXK.out]; exact HQ.out))
     go_wp2_with (go_at_call 94; refine (C6 x i h0.1 h0.2 g _ HXL.out).mono ?_; rintro e W2 ⟨rfl, eX⟩; rw [HQ.out]; have xK := ak (Kd.R_below HRL.out eX); have gD := ak (HXL.out.below eX); have jk := ak (HBL.out.trans (eX.mono (lb cG HBL))); have lH := ak (iF.trans HKL.out (iF.of_below eX)); clear eX)
     go_roundw
     case rel => exact ⟨jj + 1, ii, L, by omega, by omega, rfl, by go_num, HL, ⟨HG.out.1⟩, ⟨HG.out.2⟩, xK, gD, jk, lH⟩
     case measure => simp [intOf]; omega
    | false =>
     have HQ := ak hq
     clear hq
     have HG := ak (I1 xs L i jj ii hlt HL.out hij HT.out HD.out (by rw [← HXK.out]; exact HQ.out))
     rw [← HXK.out] at HG
     have hlast : (ii : Int) < (xs.length : Int) := by omega
     have e1 : ((ii : Int).toNat * (Kd.int .u8).sz + 0) = ii := by show (ii : Int).toNat * 1 + 0 = ii; omega
     have E1 := ak e1
     clear e1
     go_wp2_with (first
      | (go_at_call 94; refine (C6 x i h0.1 h0.2 g _ HXL.out).mono ?_; rintro e W2 ⟨rfl, eX⟩; rw [HQ.out]; have xK := ak (Kd.R_below HRL.out eX); have gD := ak (HXL.out.below eX); have jk := ak (HBL.out.trans (eX.mono (lb cG HBL))); have lH := ak (iF.trans HKL.out (iF.of_below eX)); obtain ⟨ce, hcl, ZM, hcc, hcf⟩ := Kd.R_elem xK.out 0 (ii : Int) (by omega) hlast; obtain ⟨u, rfl⟩ := List.length_eq_one_iff.1 (show ce.length = 1 from hcl); have HCC := ak hcc; have HCL := ak hcl; have Lk : W2.cell? ⟨gr, ii, none⟩ = some u := (by have h_ := hcc 0 u rfl; rwa [E1.out] at h_); have yB : W2.frozen? ⟨gr, ii, none⟩ = false := (by have h_ := hcf 0; rwa [E1.out] at h_); clear eX hx hcc hcl hcf ZM))
     clear Lk yB
     have hsg := Kd.R_seg xK.out (ii : Int) (by omega) hlast (seg := [.int .u8 x]) (j := 0) (x' := x) (okp := fun _ => False) HCL.out HCC.out (Nat.le_refl 1) rfl (fun _ h => h.elim)
     rw [E1.out, Int.toNat_natCast] at hsg
     have HR3 := ak hsg.1
     have Cw := hsg.2
     have n6 := ak (gD.out.grown Cw (gD.out.ne_row xK.out (by decide)))
     have yK := ak (iF.trans lH.out (iF.of_grown Cw (fun k hk => hk)))
     have ja := ak (jk.out.grown Cw (lb cG jk) (by intro k hk; cases hk; exact HGR.out))
     clear hsg Cw
     go_roundw
     case rel => exact ⟨jj + 1, ii + 1, L.set ii x, by omega, by omega, by go_num, by go_num, ⟨HG.out.1⟩, ⟨HG.out.2.1⟩, ⟨HG.out.2.2⟩, HR3, n6, ja, yK⟩
     case measure => simp [intOf]; omega
   ·obtain rfl : jj = xs.length := by omega
    have hkb : decide ((xs.length : Int) < (xs.length : Int)) = false := by simp
    have hcl : ∀ ty, (Builtin.clear_ #[48] ty #[.slice (some ⟨gr, ii, none⟩) (xs.length - ii) (c - ii)]).run Try.prog W = .ok (.tuple #[]) (W.setCells gr ii (List.replicate (xs.length - ii) (.int .u8 0))) :=
     fun ty => Lib.run_clear_slice W 48 5 ty (.int .u8 0) Try.underlying48 P0 rfl rfl gr ii _ _ (by omega) (fun j hj => by
      obtain ⟨⟨u, hu⟩, _⟩ := LQ HRL.out (ii + j) (by omega)
      rw [hu]
      rfl) (fun j hj => (LQ HRL.out (ii + j) (by omega)).2)
    have hcne : ¬ c = ii := by omega
    have HZ := ak (Gx (xs.length - ii) ii W L (by omega) HRL.out)
    rw [List.take_of_length_le (Nat.le_refl xs.length)] at HT
    generalize hW2 : W.setCells gr ii (List.replicate (xs.length - ii) (.int .u8 0)) = W2 at hcl HZ
    go_wp2
    go_ret
    obtain ⟨ys, hyl, hyt, hyr, hyg⟩ := HZ.out
    have hr := Kd.R_take hyr (m := ii) (by rw [hyl, HL.out]; omega)
    rw [hyt, HT.out] at hr
    exact ⟨_, rfl, hr, HBL.out.grown hyg (lb cG HBL) (by intro k hk; cases hk; exact HGR.out), iF.trans HKL.out (iF.of_grown hyg (fun k hk => hk))⟩
end Go.Proofs.Ytemhalnhbgkbcaa.V
end

section
namespace Go.Proofs.Ytemhalnhbgkbcaa.V
def yH (l : List At) : Prop := ∀ j, j < l.length → (l.take j).any (sameAt (iR l j)) = false
theorem qi {b : Bk} (hp : RightP b) (hk : BkOk b) (j : Nat) (h : j < b.free.length) : 0 ≤ rd b.free j ∧ rd b.free j < 64 ∧ rd b.free j ∉ b.free.take j ∧ b.slots.getD (rd b.free j).toNat 0 = 0 := by
 have h1 := hp.fr j h
 unfold jF at h1
 simp only [Bool.or_eq_false_iff, decide_eq_false_iff_not, bne_eq_false_iff_eq] at h1
 exact ⟨(lG hk.f8 j).1, by omega, h1.2.1, h1.2.2⟩
theorem FY (l : List Int) (k : Nat) (h : k < l.length) : rd l k = l[k] := by simp [rd, List.getD, h]
theorem Jn {b : Bk} (hp : RightP b) (hk : BkOk b) (k : Nat) (h : k < b.free.length) : (b.free.drop k).filter (g7 (rd b.free k)) = b.free.drop (k + 1) := by
 rw [List.drop_eq_getElem_cons h, List.filter_cons]
 have e := FY b.free k h
 rw [e]
 have h0 : g7 b.free[k] b.free[k] = false := by simp [g7]
 rw [h0, if_neg (by decide), List.filter_eq_self]
 intro x hx
 obtain ⟨i, hi, rfl⟩ := List.mem_iff_getElem.1 hx
 rw [List.length_drop] at hi
 have hm := (qi hp hk (k + 1 + i) (by omega)).2.2.1
 rw [FY b.free (k + 1 + i) (by omega)] at hm
 rw [List.getElem_drop]
 have hne : b.free[k + 1 + i] ≠ b.free[k] := fun e2 => hm (by
  rw [e2]
  exact List.mem_take_iff_getElem.2 ⟨k, by omega, rfl⟩)
 simp [g7, hne]
theorem Qn {l : List At} (h : yH l) (a : At) : yH (eZ l a) := by
 unfold eZ
 cases hi : g5 l a with
 | some i => exact h
 | none =>
  show yH (l ++ [a])
  intro j hj
  rw [List.length_append, List.length_singleton] at hj
  rcases Nat.lt_or_ge j l.length with h1 | h1
  ·have e1 : (l ++ [a]).take j = l.take j := by rw [List.take_append_of_le_length (by omega)]
   have e2 : iR (l ++ [a]) j = iR l j := by
    rw [nP _ _ (by simp; omega), nP _ _ h1, List.getElem_append_left h1]
   rw [e1, e2]
   exact h j h1
  ·obtain rfl : j = l.length := by omega
   have e1 : (l ++ [a]).take l.length = l := by simp
   have e2 : iR (l ++ [a]) l.length = a := by
    rw [nP _ _ (by simp)]
    simp
   rw [e1, e2]
   unfold g5 at hi
   rw [List.findIdx?_eq_none_iff] at hi
   rw [List.any_eq_false]
   intro x hx
   simpa using hi x hx
theorem Rh {b : Bk} (h : yH b.attrs) (k : Nat) (a : At) : yH (fF b k a).attrs := by
 show yH (if k = 0 then b.attrs else eZ b.attrs a)
 split
 ·exact h
 ·exact Qn h a
theorem JB (b : Bk) (k : Nat) (a : At) : (fF b k a).slots.length = b.slots.length ∧ (fF b k a).free.length ≤ b.free.length ∧ (fF b k a).attrs.length ≤ b.attrs.length + 1 := by
 refine ⟨CM _ _ _, ?_, ?_⟩
 ·show (b.free.drop k).length ≤ _
  rw [List.length_drop]
  omega
 ·show (if k = 0 then b.attrs else eZ b.attrs a).length ≤ _
  split
  ·omega
  ·exact rC _ _
theorem Em {b : Bk} (hp : RightP b) (hk : BkOk b) (k : Nat) (h : k < b.free.length) (a : At) : gE (fF b k a) (rd b.free k).toNat a = fF b (k + 1) a := by
 have h0 := qi hp hk k h
 have hmid := qx b k a h
 have e : fF b (k + 1) a = ⟨b.addr, b.aff, (eM b (k + 1) a).slots, b.free.drop (k + 1), (eM b (k + 1) a).attrs⟩ := rfl
 rw [e, hmid, ← Jn hp hk k h]
 unfold gE
 congr 1
 show (b.free.drop k).filter (g7 ((rd b.free k).toNat : Int)) = _
 rw [Int.toNat_of_nonneg h0.1]
theorem KN (b : Bk) (a : At) : fF b 0 a = b := rfl
theorem E0 (b : Bk) (k : Nat) (a : At) (h : k < b.free.length) : 0 < (fF b k a).free.length ∧ rd (fF b k a).free 0 = rd b.free k := by
 constructor
 ·show 0 < (b.free.drop k).length
  rw [List.length_drop]
  omega
 ·show rd (b.free.drop k) 0 = _
  simp [rd, List.getD]
end Go.Proofs.Ytemhalnhbgkbcaa.V
end

section
namespace Go.Proofs.Ytemhalnhbgkbcaa.V
theorem BF (a : At) : ∀ u ∈ [Value.string (vc a).f0, .string (vc a).f1], u.oneCell' = true := by
 intro u hu
 simp only [List.mem_cons, List.not_mem_nil, or_false] at hu
 rcases hu with rfl | rfl <;> rfl
theorem Cq (l : List Int) (i : Int) (k : Nat) (h : k < l.length) : (l.take (k + 1)).filter (g7 i) = (l.take k).filter (g7 i) ++ if (l[k] == i) = true then [] else [l[k]] := by
 rw [List.take_succ_eq_append_getElem h, List.filter_append]
 congr 1
 cases hq : (l[k] == i) <;> simp [g7, hq]
set_option maxHeartbeats 16000000 in
set_option maxRecDepth 100000 in
theorem En (b : Bk) (hl : b.slots.length = 64) (hf : b.free.length ≤ 1000) (ha : b.attrs.length ≤ 100) (hnd : ∀ j, j < b.attrs.length → (b.attrs.take j).any (sameAt (iR b.attrs j)) = false) (i : Nat) (hi : i < 64) (a : At) (v : Value) (w : World) (h : jL w v b) :
  Calls Try.prog 106 #[v, .int .i64 i, .agg #[.string a.f0, .string a.f1]] w fun e w' => ∃ v', e = .returned v' ∧ fw w' w.heap.size v' (gE b i a) ∧ Below w.heap.size w w' := by
 obtain ⟨M, JR, Ju, JS, Jx, JT, Jz, rfl, hr⟩ := h
 have AD := ak hr.m
 have hml : M.length = b.attrs.length := by rw [hr.m, List.length_map]
 have HML := ak hml
 have HR := ak hr
 have HL := ak hl
 have HND := ak hnd
 have HFL := ak hf
 have D1 : M.length ≤ 100 := by omega
 have HCP := ak (fun w h => C5 b (by omega) (by omega) M (by omega) JR Ju JS Jx JT Jz w h)
 have an := ak (Below.refl w.heap.size w)
 clear hr hl hnd hml hf
 go_enter Try.func106, Try.ntmps106
 go_wp2_with (first
  | (refine aV rfl 62 (.tmp 0) rfl _ rfl ?_; intro gX W1 J aa I; have cw := ge an J; have aA := ak (an.out.trans (I.mono an.out.size)); have au := ak (aa); clear J aa I an)
  | (refine aV rfl 76 (.tmp 2) rfl _ rfl ?_; intro gA W2 J aa I; have lI := ge aA J; have fq := ne au J; have aK := mv I aA; have aI := mv I au; have cX := ak (aa); clear J aa I aA au)
  | (refine aH (some 6) rfl rfl 62 rfl dW (fun _ => by kernel_rfl) ?_; intro gZ W3 J aa I; have ct := ge aK J; have aU := ne aI J; have ij := ne cX J; have aT := mv I aK; have aQ := mv I aI; have eg := mv I cX; have cD := ak (aa); clear J aa I aK aI cX)
  | ((with_reducible refine aJ (N := 13) rfl ?_); refine aN rfl 62 (.tmp 3) rfl gX rfl _ _ _ aQ.out Try.underlying62 rfl 5 (by kernel_rfl) rfl ?_)
  | (go_at_call 85; refine (HCP.out _ (HR.out.below aT.out)).mono ?_; rintro e W4 ⟨vs, vf, va, rfl, vI, dM, ew, I⟩; obtain ⟨As, cs, rfl⟩ := Kd.R_slice vI; obtain ⟨Af, cf, rfl⟩ := Kd.R_slice dM; obtain ⟨Aa, ca, rfl⟩ := Kd.R_slice ew; have HSZ := ak aT.out.size; have HGL := ak (show gA < W3.heap.size from eg.out.lt); have bq := mv I aT; have bg := mv I aQ; have eD := mv I eg; have bB := mv I cD; have dC := ak (vI); have cU := ak (dM); have dZ := ak (ew); clear vI dM ew I aT aQ eg cD)
  | (refine a7 rfl 62 (.tmp 3) (.tmp 14) rfl gX (dH b.addr b.aff (.slice As b.slots.length cs) (.slice Af b.free.length cf) (.slice Aa M.length ca)) rfl rfl 62 _ bg.out 5 (by kernel_rfl) rfl rfl (et _ _ rfl rfl rfl) ?_; intro W5 aa J; have bE := gb bq cw J; have bz := ak (aa); have fB := gx eD bg J; have bY := gm bB aU J; have dG := gr dC bg J; have cQ := gr cU bg J; have dw := gr dZ bg J; have pA := aa.cell 4 _ rfl; clear aa J bq bg eD bB dC cU dZ))
 clear pA
 obtain ⟨b1, cI⟩ : ∃ b1, b1 = W3.heap.size := ⟨_, rfl⟩
 rw [← cI] at dG cQ dw HSZ HGL
 have cG := ak (show w.heap.size ≤ b1 from HSZ.out)
 clear cI HSZ
 go_loopw [7, 8, 9, 18] (fun q _ _ u W => ∃ k : Nat, k ≤ M.length ∧ u = .int .i64 k ∧ q = .int .i64 (uC (g5 (b.attrs.take k) a)) ∧ Aside0 (aX W gX (dH b.addr b.aff (.slice As b.slots.length cs) (.slice Af b.free.length cf) (.slice Aa M.length ca)) 62) ∧ Aside0 (aX W gA [.string (vc a).f0, .string (vc a).f1] 76) ∧ Aside0 (aX W gZ dW 62) ∧ Aside0 (Kd.R (Kd.int .i64) 3 W b1 (fun k => some k ≠ (Value.slice Af b.free.length cf).ownBlock) (.slice As b.slots.length cs) b.slots) ∧ Aside0 (Kd.R (Kd.int .i64) 3 W b1 (fun k => some k ≠ (Value.slice As b.slots.length cs).ownBlock) (.slice Af b.free.length cf) b.free) ∧ Aside0 (Kd.R ia 76 W b1 (fun _ => True) (.slice Aa M.length ca) M) ∧ Aside0 (Below w.heap.size w W)) (fun _ _ _ u _ => M.length - (intOf u).toNat)
 case atStart => exact ⟨0, by omega, rfl, rfl, bz, fB, bY, dG, cQ, dw, bE⟩
 case round =>
  clear bz fB bY dG cQ dw bE
  obtain ⟨k, hk, rfl, rfl, aZ, iJ, bT, bl, bU, cb, an⟩ := hrel
  obtain ⟨W, rfl⟩ : ∃ W : World, W = wr := ⟨_, rfl⟩
  by_cases hkn : k < M.length
  ·have hkb : decide ((k : Int) < (M.length : Int)) = true := by simp; omega
   obtain ⟨ad, eA, kE, mq⟩ := sN (Kd.R_reads' cb.out).2.2 k (by omega) (by omega)
   cases eA
   rw [Int.toNat_natCast] at kE mq
   have p1 : ((k : Int) < (M.length : Int)) = True := eq_true (by omega)
   have hka : k < b.attrs.length := by have := HML.out; omega
   obtain ⟨x, hx⟩ : ∃ x : At, iR b.attrs k = x := ⟨_, rfl⟩
   have hx' : a9 M (k : Int) = vc x := by
    rw [← hx, AD.out]
    show a9 (b.attrs.map vc) (k : Int) = vc (dE b.attrs (k : Int))
    simp [a9, dE, List.getD, hka]
   rw [hx'] at kE mq
   obtain ⟨q, hq⟩ : ∃ q, q = uC (g5 (b.attrs.take k) a) := ⟨_, rfl⟩
   rw [← hq]
   have hsd : sameAt x a = ((vc x).f0.toList == (vc a).f0.toList && (vc x).f1.toList == (vc a).f1.toList) := rfl
   cases e0 : ((vc x).f0.toList == (vc a).f0.toList) with
   | true =>
    cases e1 : ((vc x).f1.toList == (vc a).f1.toList) with
    | true =>
     rw [e0, e1] at hsd
     have HQ := ak (show uC (g5 (b.attrs.take (k + 1)) a) = (k : Int) by rw [CU b.attrs a k hka (by rw [hx]; exact hsd) (HND.out k hka)]; rfl)
     clear hx hx' hq hsd
     go_wp2_with (first
      | (refine aH (some 9) rfl rfl 76 rfl [.string ⟨#[]⟩, .string ⟨#[]⟩] (fun _ => by kernel_rfl) ?_; intro gV W1 J aa I; have dQ := ge an J; have fL := ne aZ J; have mg := ne iJ J; have kU := ne bT J; have au := mv I aZ; have kB := mv I iJ; have cd := mv I bT; have bC := mv I bl; have bJ := mv I bU; have b7 := ak (Kd.R_mono (ok' := fun k_ => k_ ≠ gV) (Kd.R_below (Kd.R_bound cb.out) I) (fun k_ dS e_ => by have h_ := dS.2.2.1; omega)); have aA := ak (an.out.trans (I.mono an.out.size)); have iI := ak (aa); clear J aa I aZ iJ bT bl bU cb an)
      | (refine a7 rfl 76 (.tmp 9) (.tmp 22) rfl gV [.string (vc x).f0, .string (vc x).f1] rfl rfl 76 _ iI.out 2 (by kernel_rfl) rfl rfl (BF x) ?_; intro W2 aa J; have aI := gx au iI J; have cX := gn kB mg J; have de := gx cd iI J; have b4 := gr bC iI J; have ch := gr bJ iI J; have dm := ak (Kd.R_mono (ok' := fun _ => True) (Kd.R_grown b7.out J (fun k_ dS e_ => dS (Option.some.inj e_))) (fun _ _ => trivial)); have aK := gb aA dQ J; have eC := ak (aa); have ob := aa.cell 0 _ rfl; have mO := aa.cell 1 _ rfl; have Hk := cX.out.cell 0 _ rfl; have Hj := cX.out.cell 1 _ rfl; clear aa J au kB cd bC bJ b7 aA iI))
     go_roundw
     case rel => exact ⟨k + 1, by omega, by go_num, by rw [HQ.out], aI, cX, de, b4, ch, dm, aK⟩
     case measure => simp [intOf]; omega
    | false =>
     rw [e0, e1] at hsd
     have HQ := ak (show uC (g5 (b.attrs.take (k + 1)) a) = q by rw [wE b.attrs a k hka (by rw [hx]; exact hsd), hq])
     clear hx hx' hq hsd
     go_wp2_with (first
      | (refine aH (some 9) rfl rfl 76 rfl [.string ⟨#[]⟩, .string ⟨#[]⟩] (fun _ => by kernel_rfl) ?_; intro gV W1 J aa I; have dQ := ge an J; have fL := ne aZ J; have mg := ne iJ J; have kU := ne bT J; have au := mv I aZ; have kB := mv I iJ; have cd := mv I bT; have bC := mv I bl; have bJ := mv I bU; have b7 := ak (Kd.R_mono (ok' := fun k_ => k_ ≠ gV) (Kd.R_below (Kd.R_bound cb.out) I) (fun k_ dS e_ => by have h_ := dS.2.2.1; omega)); have aA := ak (an.out.trans (I.mono an.out.size)); have iI := ak (aa); clear J aa I aZ iJ bT bl bU cb an)
      | (refine a7 rfl 76 (.tmp 9) (.tmp 22) rfl gV [.string (vc x).f0, .string (vc x).f1] rfl rfl 76 _ iI.out 2 (by kernel_rfl) rfl rfl (BF x) ?_; intro W2 aa J; have aI := gx au iI J; have cX := gn kB mg J; have de := gx cd iI J; have b4 := gr bC iI J; have ch := gr bJ iI J; have dm := ak (Kd.R_mono (ok' := fun _ => True) (Kd.R_grown b7.out J (fun k_ dS e_ => dS (Option.some.inj e_))) (fun _ _ => trivial)); have aK := gb aA dQ J; have eC := ak (aa); have ob := aa.cell 0 _ rfl; have mO := aa.cell 1 _ rfl; have Hk := cX.out.cell 0 _ rfl; have Hj := cX.out.cell 1 _ rfl; clear aa J au kB cd bC bJ b7 aA iI))
     go_roundw
     case rel => exact ⟨k + 1, by omega, by go_num, by rw [HQ.out], aI, cX, de, b4, ch, dm, aK⟩
     case measure => simp [intOf]; omega
   | false =>
    rw [e0, Bool.false_and] at hsd
    have HQ := ak (show uC (g5 (b.attrs.take (k + 1)) a) = q by rw [wE b.attrs a k hka (by rw [hx]; exact hsd), hq])
    clear hx hx' hq hsd
    go_wp2_with (first
     | (refine aH (some 9) rfl rfl 76 rfl [.string ⟨#[]⟩, .string ⟨#[]⟩] (fun _ => by kernel_rfl) ?_; intro gV W1 J aa I; have dQ := ge an J; have fL := ne aZ J; have mg := ne iJ J; have kU := ne bT J; have au := mv I aZ; have kB := mv I iJ; have cd := mv I bT; have bC := mv I bl; have bJ := mv I bU; have b7 := ak (Kd.R_mono (ok' := fun k_ => k_ ≠ gV) (Kd.R_below (Kd.R_bound cb.out) I) (fun k_ dS e_ => by have h_ := dS.2.2.1; omega)); have aA := ak (an.out.trans (I.mono an.out.size)); have iI := ak (aa); clear J aa I aZ iJ bT bl bU cb an)
     | (refine a7 rfl 76 (.tmp 9) (.tmp 22) rfl gV [.string (vc x).f0, .string (vc x).f1] rfl rfl 76 _ iI.out 2 (by kernel_rfl) rfl rfl (BF x) ?_; intro W2 aa J; have aI := gx au iI J; have cX := gn kB mg J; have de := gx cd iI J; have b4 := gr bC iI J; have ch := gr bJ iI J; have dm := ak (Kd.R_mono (ok' := fun _ => True) (Kd.R_grown b7.out J (fun k_ dS e_ => dS (Option.some.inj e_))) (fun _ _ => trivial)); have aK := gb aA dQ J; have eC := ak (aa); have ob := aa.cell 0 _ rfl; have mO := aa.cell 1 _ rfl; have Hk := cX.out.cell 0 _ rfl; have Hj := cX.out.cell 1 _ rfl; clear aa J au kB cd bC bJ b7 aA iI))
    go_roundw
    case rel => exact ⟨k + 1, by omega, by go_num, by rw [HQ.out], aI, cX, de, b4, ch, dm, aK⟩
    case measure => simp [intOf]; omega
  ·obtain rfl : k = M.length := by omega
   have hkb : decide ((M.length : Int) < (M.length : Int)) = false := by simp
   rw [show b.attrs.take M.length = b.attrs from List.take_of_length_le (by rw [HML.out]; exact Nat.le_refl _)]
   cases hix : g5 b.attrs a with
   | some j =>
    obtain ⟨gs, rfl⟩ := pJ bl.out (by have := HL.out; omega)
    have HBS := ak (show b1 ≤ W.heap.size by
     have h1 := Kd.R_lt bl.out gs rfl
     have h2 := Kd.R_base bl.out gs rfl
     omega)
    have wA := cG
    have yV : gX ≠ gs := fun e_ => (aZ.out.ne_row bl.out (by decide)) (by rw [e_]; rfl)
    have Hh : gs ≠ gX := fun e_ => yV e_.symm
    have pi : ((i : Int) < (b.slots.length : Int)) = True := eq_true (by have := HL.out; omega)
    have HI := ak (show i < b.slots.length by have := HL.out; omega)
    have hji := yU hix
    have CF := ak (show ((ft b.attrs a : Nat) : Int) = (j : Int) + 1 by unfold ft; rw [hix]; show ((j + 1 : Nat) : Int) = _; omega)
    have CE := ak (show M = (eZ b.attrs a).map vc by unfold eZ; rw [hix]; exact AD.out)
    rw [show uC (some j) = (j : Int) from rfl]
    have hj9 : j < 100 := by omega
    have hneg : decide ((j : Int) < 0) = false := decide_eq_false (by omega)
    clear hix
    have kR := aZ.out.cell 2 _ rfl
    have sy := (mK bl.out i HI.out).1
    have wa := (mK bl.out i HI.out).2
    have Lt := aZ.out.cell 3 _ rfl
    go_wp2_with fail
    generalize cr : W.setCell ⟨gs, i, none⟩ (.int .i64 ((j : Int) + 1)) = W1; have J : W.grownBy W1 (some gs) := (by rw [← cr]; exact (oA bl.out i HI.out ((j : Int) + 1)).2); have au := ak (aZ.out.grown J (aZ.out.ne_row bl.out (by decide))); have kB := ak (iJ.out.grown J (iJ.out.ne_row bl.out (by decide))); have cd := ak (bT.out.grown J (bT.out.ne_row bl.out (by decide))); have bC := ak ((oA bl.out i HI.out ((j : Int) + 1)).1); have bJ := ak (Kd.R_grown bU.out J (fun k_ dS => dS)); have b7 := ak (Kd.R_over cb.out bl.out (by decide) J); have aA := ak (an.out.grown J an.out.size (by intro k hk; cases hk; exact Nat.le_trans wA.out (Kd.R_base bl.out gs rfl))); rw [cr] at bC; clear cr J aZ iJ bT bl bU cb an kR sy wa Lt
    obtain ⟨sl, hsl⟩ : ∃ sl, sl = b.slots.set i ((j : Int) + 1) := ⟨_, rfl⟩
    have HSL := ak (show (gE b i a).slots = sl by rw [hsl]; show b.slots.set i ((ft b.attrs a : Nat) : Int) = _; rw [CF.out])
    have HSN := ak (show b.slots.length = sl.length by rw [hsl, List.length_set])
    rw [← hsl] at bC
    clear hsl
    obtain ⟨b2, eX⟩ : ∃ b2, b2 = W1.heap.size := ⟨_, rfl⟩
    have HS' := ak (Kd.R_mono (ok' := fun k => k < b2) (Kd.R_bound bC.out) (fun k hk => by have := hk.2.2.1; omega))
    have HF' := ak (Kd.R_mono (ok' := fun k => k < b2) (Kd.R_bound bJ.out) (fun k hk => by have := hk.2.2.1; omega))
    have sS := ak (show b2 ≤ W1.heap.size by omega)
    have HWB := ak (show w.heap.size ≤ b2 by have := aA.out.size; omega)
    clear eX
    clear yV Hh pi
    go_loopw [10, 12, 48] (fun q _ u W => ∃ k : Nat, k ≤ b.free.length ∧ u = .int .i64 k ∧ Aside0 (aX W gX (dH b.addr b.aff (.slice (some ⟨gs, 0, none⟩) b.slots.length cs) (.slice Af b.free.length cf) (.slice Aa M.length ca)) 62) ∧ Aside0 (aX W gZ dW 62) ∧ Aside0 (Kd.R (Kd.int .i64) 3 W b1 (fun k => k < b2) (.slice (some ⟨gs, 0, none⟩) b.slots.length cs) sl) ∧ Aside0 (Kd.R (Kd.int .i64) 3 W b1 (fun k => k < b2) (.slice Af b.free.length cf) b.free) ∧ Aside0 (Kd.R ia 76 W b1 (fun _ => True) (.slice Aa M.length ca) M) ∧ Aside0 (Kd.R (Kd.int .i64) 3 W b2 (fun _ => True) q ((b.free.take k).filter (g7 (i : Int)))) ∧ Aside0 (b2 ≤ W.heap.size) ∧ Aside0 (Below w.heap.size w W)) (fun _ _ u _ => b.free.length - (intOf u).toNat)
    case atStart => exact ⟨0, by omega, rfl, au, cd, HS', HF', b7, ⟨Kd.R_nil _ _ _ _ _⟩, sS, aA⟩
    case round =>
     clear HS' HF' sS au kB cd bC bJ b7 aA
     obtain ⟨k, p8, rfl, aZ, bT, bl, bU, cb, iM, jt, an⟩ := hrel
     obtain ⟨W, rfl⟩ : ∃ W : World, W = wr := ⟨_, rfl⟩
     have hfl := HFL.out
     by_cases hkm : k < b.free.length
     ·have hkb : decide ((k : Int) < (b.free.length : Int)) = true := by simp; omega
      obtain ⟨ad, eA, hx⟩ := Kd.at_int (Kd.R_reads' bU.out).2.2 k (by omega) (by omega)
      cases eA
      rw [Int.toNat_natCast] at hx
      have p1 : ((k : Int) < (b.free.length : Int)) = True := eq_true (by omega)
      have hrd : rd b.free k = b.free[k] := by simp [rd, List.getD, hkm]
      have hkt := Cq b.free (i : Int) k hkm
      obtain ⟨x, hxx⟩ : ∃ x, x = b.free[k] := ⟨_, rfl⟩
      rw [← hxx] at hrd hkt
      rw [hrd] at hx
      obtain ⟨lk, hlk⟩ : ∃ lk, lk = (b.free.take k).filter (g7 (i : Int)) := ⟨_, rfl⟩
      have HLL := ak (show lk.length ≤ 1000 by rw [hlk]; have h1 := List.length_filter_le (g7 (i : Int)) (b.free.take k); rw [List.length_take] at h1; omega)
      rw [← hlk] at iM hkt
      obtain ⟨Al, cl, rfl⟩ := Kd.R_slice iM.out
      cases hq : (x == (i : Int)) with
      | true =>
       have yB : (x != (i : Int)) = false := by rw [bne, hq]; rfl
       have HKT := ak (show (b.free.take (k + 1)).filter (g7 (i : Int)) = lk by rw [hkt, hq]; simp)
       clear hrd hkt hxx hlk
       go_wp2_with fail
       go_roundw
       case rel => exact ⟨k + 1, by omega, by go_num, aZ, bT, bl, bU, cb, ⟨by rw [HKT.out]; exact iM.out⟩, jt, an⟩
       case measure => simp [intOf]; omega
      | false =>
       have yB : (x != (i : Int)) = true := by rw [bne, hq]; rfl
       obtain ⟨l1, yC⟩ : ∃ l1, l1 = lk ++ [x] := ⟨_, rfl⟩
       have tW := ak yC
       have HKT := ak (show (b.free.take (k + 1)).filter (g7 (i : Int)) = l1 by rw [hkt, hq, yC]; simp)
       clear hrd hkt hxx hlk yC
       go_wp2_with (first
        | ((with_reducible refine cy (b := .append) (xs := #[.tmp 55, .tmp 57]) rfl ?_); at_builtin; refine Kd.R_append (Kd.int .i64) (w0 := W) b2 rfl (.tmp 55) (.tmp 57) 31 3 (.int .i64 0) 8 rfl Try.underlying31 xp rfl (by decide) (by omega) _ lk x [.int .i64 x] (fun _ => True) (fun _ => False) rfl rfl rfl (fun _ hk => hk.elim) (fun _ _ => trivial) iM.out (Below.refl _ _) jt.out (by have := HLL.out; omega) ?_; intro v_ W1 bc I J gp; rw [← tW.out] at bc; have au := ak (aZ.out.grown J (aZ.out.ne_row iM.out (by decide))); have cd := ak (bT.out.grown J (bT.out.ne_row iM.out (by decide))); have bC := ak (vM bl.out (fun _ h_ => h_) iM.out J); have bJ := ak (vM bU.out (fun _ h_ => h_) iM.out J); have b7 := ak (Kd.R_over cb.out iM.out (by decide) J); have wv := ak (bc); have ll := ak (Nat.le_trans jt.out J.size); have aA := ak (an.out.trans (I.mono HWB.out)); obtain ⟨AL, cL, rfl⟩ := Kd.R_slice bc; clear bc I J gp aZ bT bl bU cb iM jt an))
       go_roundw
       case rel => exact ⟨k + 1, by omega, by go_num, au, cd, bC, bJ, b7, ⟨by rw [HKT.out]; exact wv.out⟩, ll, aA⟩
       case measure => simp [intOf]; omega
     ·obtain rfl : k = b.free.length := by omega
      have hkb : decide ((b.free.length : Int) < (b.free.length : Int)) = false := by simp
      rw [List.take_of_length_le (Nat.le_refl b.free.length)] at iM
      obtain ⟨lk, hlk⟩ : ∃ lk, lk = b.free.filter (g7 (i : Int)) := ⟨_, rfl⟩
      rw [← hlk] at iM
      have HGB := ak (show gE b i a = ⟨b.addr, b.aff, sl, lk, eZ b.attrs a⟩ by rw [hlk, ← HSL.out]; rfl)
      obtain ⟨Al, cl, rfl⟩ := Kd.R_slice iM.out
      clear hlk hfl
      have qf := aZ.out.cell 3 _ rfl
      have Kv := aZ.out.frozen 3
      go_wp2_with (first
       | ((with_reducible refine aJ (N := 62) rfl ?_); generalize cr : W.setCell ⟨gX, 3, none⟩ (.slice Al lk.length cl) = W1; have J : W.grownBy W1 (some gX) := (by rw [← cr]; exact bP _ _ _ _); have au := ak (aZ.out.set 3 (.slice Al lk.length cl)); have cd := gm bT aU J; have bC := gr bl aZ J; have bJ := gr bU aZ J; have b7 := gr cb aZ J; have wv := gr iM aZ J; have ll := ak (Nat.le_trans jt.out J.size); have aA := gb an cw J; rw [cr] at au; clear cr J aZ bT bl bU cb iM jt an qf Kv; refine aN rfl 62 (.tmp 3) rfl gX rfl _ _ _ au.out Try.underlying62 rfl 5 (by kernel_rfl) rfl ?_)
       | (refine a7 rfl 62 (.tmp 6) (.tmp 62) rfl gZ (dH b.addr b.aff (.slice (some ⟨gs, 0, none⟩) b.slots.length cs) (.slice Al lk.length cl) (.slice Aa M.length ca)) rfl rfl 62 _ cd.out 5 (by kernel_rfl) rfl rfl (et _ _ rfl rfl rfl) ?_; intro W2 aa J; have aI := gn au aU J; have de := ak (aa); have b4 := gr bC cd J; have ch := gr bJ cd J; have dm := gr b7 cd J; have K1 := gr wv cd J; have dk := ak (Nat.le_trans ll.out J.size); have aK := gb aA ct J; clear aa J au cd bC bJ b7 wv ll aA))
      refine bodyPost_ret (results_cell_row rfl _ _ gZ 62 _ (0, 0) _ rfl de.out Try.underlying62 rfl (by kernel_rfl)) rfl ⟨_, rfl, ?_, aK.out⟩
      rw [HGB.out]
      refine ⟨_, _, _, rfl, ?_, ?_, ?_⟩
      ·exact Kd.R_lower (Kd.R_mono b4.out (fun _ _ => trivial)) cG.out
      ·exact Kd.R_lower K1.out HWB.out
      ·rw [← CE.out]; exact Kd.R_lower dm.out cG.out
   | none =>
    obtain ⟨gs, rfl⟩ := pJ bl.out (by have := HL.out; omega)
    have HBS := ak (show b1 ≤ W.heap.size by
     have h1 := Kd.R_lt bl.out gs rfl
     have h2 := Kd.R_base bl.out gs rfl
     omega)
    have wA := cG
    have yV : gX ≠ gs := fun e_ => (aZ.out.ne_row bl.out (by decide)) (by rw [e_]; rfl)
    have Hh : gs ≠ gX := fun e_ => yV e_.symm
    have pi : ((i : Int) < (b.slots.length : Int)) = True := eq_true (by have := HL.out; omega)
    have HI := ak (show i < b.slots.length by have := HL.out; omega)
    have CF := ak (show ((ft b.attrs a : Nat) : Int) = (M.length : Int) + 1 by unfold ft; rw [hix, HML.out]; show ((b.attrs.length + 1 : Nat) : Int) = _; omega)
    have xx : M ++ [vc a] = (eZ b.attrs a).map vc := by unfold eZ; rw [hix, List.map_append, ← AD.out]; rfl
    rw [show uC none = (-1 : Int) from rfl]
    clear hix
    have QR := aZ.out.cell 4 _ rfl
    have Hk := iJ.out.cell 0 _ rfl
    have Hj := iJ.out.cell 1 _ rfl
    obtain ⟨M1, El⟩ : ∃ M1, M1 = M ++ [vc a] := ⟨_, rfl⟩
    have MA := ak El
    have CE := ak (show M1 = (eZ b.attrs a).map vc by rw [El, xx])
    clear El xx
    go_wp2_with (first
     | ((with_reducible refine cy (b := .append) (xs := #[.tmp 34, .tmp 36]) rfl ?_); at_builtin; refine Kd.R_append ia (w0 := W) b1 rfl (.tmp 34) (.tmp 36) 49 76 (.agg #[.string ⟨#[]⟩, .string ⟨#[]⟩]) 32 rfl Try.underlying49 vY rfl (by decide) (by omega) _ M (vc a) [.string (vc a).f0, .string (vc a).f1] (fun _ => True) (fun _ => False) rfl rfl (yc _ _ _ _) (fun _ hk => hk.elim) (fun _ _ => trivial) cb.out (Below.refl _ _) HBS.out (by omega) ?_; intro v_ W1 bc I J gp; rw [← MA.out] at bc; have au := ak (aZ.out.grown J (aZ.out.ne_row cb.out (by decide))); have kB := ak (iJ.out.grown J (fun e_ => by have h_ := Kd.R_base cb.out _ e_.symm; have Gc := HGL.out; omega)); have cd := ak (bT.out.grown J (bT.out.ne_row cb.out (by decide))); have bC := ak (Kd.R_over bl.out cb.out (by decide) J); have bJ := ak (Kd.R_over bU.out cb.out (by decide) J); have b7 := ak (bc); have aA := ak (an.out.trans (I.mono cG.out)); obtain ⟨AM, cM, rfl⟩ := Kd.R_slice bc; have pA := au.out.cell 4 _ rfl; have D9 := au.out.frozen 4; have kR := au.out.cell 2 _ rfl; have Lt := au.out.cell 3 _ rfl; have sy := (mK bC.out i HI.out).1; have wa := (mK bC.out i HI.out).2; clear bc I J gp aZ iJ bT bl bU cb an QR Hk Hj))
    generalize cr : W1.setCell ⟨gX, 4, none⟩ (.slice AM M1.length cM) = W2; have J : W1.grownBy W2 (some gX) := (by rw [← cr]; exact bP _ _ _ _); have aI := ak (au.out.set 4 (.slice AM M1.length cM)); have cX := gx kB au J; have de := gm cd aU J; have b4 := gr bC au J; have ch := gr bJ au J; have dm := gr b7 au J; have aK := gb aA cw J; rw [cr] at aI; clear cr J au kB cd bC bJ b7 aA pA D9 kR Lt sy wa
    generalize cr : W2.setCell ⟨gs, i, none⟩ (.int .i64 ((M.length : Int) + 1)) = W3; have J : W2.grownBy W3 (some gs) := (by rw [← cr]; exact (oA b4.out i HI.out ((M.length : Int) + 1)).2); have aQ := ak (aI.out.grown J (aI.out.ne_row b4.out (by decide))); have eg := ak (cX.out.grown J (cX.out.ne_row b4.out (by decide))); have cD := ak (de.out.grown J (de.out.ne_row b4.out (by decide))); have cH := ak ((oA b4.out i HI.out ((M.length : Int) + 1)).1); have cW := ak (Kd.R_grown ch.out J (fun k_ dS => dS)); have dT := ak (Kd.R_over dm.out b4.out (by decide) J); have aT := ak (aK.out.grown J aK.out.size (by intro k hk; cases hk; exact Nat.le_trans wA.out (Kd.R_base b4.out gs rfl))); rw [cr] at cH; clear cr J aI cX de b4 ch dm aK
    obtain ⟨sl, hsl⟩ : ∃ sl, sl = b.slots.set i ((M.length : Int) + 1) := ⟨_, rfl⟩
    have HSL := ak (show (gE b i a).slots = sl by rw [hsl]; show b.slots.set i ((ft b.attrs a : Nat) : Int) = _; rw [CF.out])
    have HSN := ak (show b.slots.length = sl.length by rw [hsl, List.length_set])
    rw [← hsl] at cH
    clear hsl
    obtain ⟨b2, eX⟩ : ∃ b2, b2 = W3.heap.size := ⟨_, rfl⟩
    have HS' := ak (Kd.R_mono (ok' := fun k => k < b2) (Kd.R_bound cH.out) (fun k hk => by have := hk.2.2.1; omega))
    have HF' := ak (Kd.R_mono (ok' := fun k => k < b2) (Kd.R_bound cW.out) (fun k hk => by have := hk.2.2.1; omega))
    have sS := ak (show b2 ≤ W3.heap.size by omega)
    have HWB := ak (show w.heap.size ≤ b2 by have := aT.out.size; omega)
    clear eX
    clear yV Hh pi
    go_loopw [10, 12, 48] (fun q _ u W => ∃ k : Nat, k ≤ b.free.length ∧ u = .int .i64 k ∧ Aside0 (aX W gX (dH b.addr b.aff (.slice (some ⟨gs, 0, none⟩) b.slots.length cs) (.slice Af b.free.length cf) (.slice AM M1.length cM)) 62) ∧ Aside0 (aX W gZ dW 62) ∧ Aside0 (Kd.R (Kd.int .i64) 3 W b1 (fun k => k < b2) (.slice (some ⟨gs, 0, none⟩) b.slots.length cs) sl) ∧ Aside0 (Kd.R (Kd.int .i64) 3 W b1 (fun k => k < b2) (.slice Af b.free.length cf) b.free) ∧ Aside0 (Kd.R ia 76 W b1 (fun _ => True) (.slice AM M1.length cM) M1) ∧ Aside0 (Kd.R (Kd.int .i64) 3 W b2 (fun _ => True) q ((b.free.take k).filter (g7 (i : Int)))) ∧ Aside0 (b2 ≤ W.heap.size) ∧ Aside0 (Below w.heap.size w W)) (fun _ _ u _ => b.free.length - (intOf u).toNat)
    case atStart => exact ⟨0, by omega, rfl, aQ, cD, HS', HF', dT, ⟨Kd.R_nil _ _ _ _ _⟩, sS, aT⟩
    case round =>
     clear HS' HF' sS aQ eg cD cH cW dT aT
     obtain ⟨k, p8, rfl, aZ, bT, bl, bU, cb, iM, jt, an⟩ := hrel
     obtain ⟨W, rfl⟩ : ∃ W : World, W = wr := ⟨_, rfl⟩
     have hfl := HFL.out
     by_cases hkm : k < b.free.length
     ·have hkb : decide ((k : Int) < (b.free.length : Int)) = true := by simp; omega
      obtain ⟨ad, eA, hx⟩ := Kd.at_int (Kd.R_reads' bU.out).2.2 k (by omega) (by omega)
      cases eA
      rw [Int.toNat_natCast] at hx
      have p1 : ((k : Int) < (b.free.length : Int)) = True := eq_true (by omega)
      have hrd : rd b.free k = b.free[k] := by simp [rd, List.getD, hkm]
      have hkt := Cq b.free (i : Int) k hkm
      obtain ⟨x, hxx⟩ : ∃ x, x = b.free[k] := ⟨_, rfl⟩
      rw [← hxx] at hrd hkt
      rw [hrd] at hx
      obtain ⟨lk, hlk⟩ : ∃ lk, lk = (b.free.take k).filter (g7 (i : Int)) := ⟨_, rfl⟩
      have HLL := ak (show lk.length ≤ 1000 by rw [hlk]; have h1 := List.length_filter_le (g7 (i : Int)) (b.free.take k); rw [List.length_take] at h1; omega)
      rw [← hlk] at iM hkt
      obtain ⟨Al, cl, rfl⟩ := Kd.R_slice iM.out
      cases hq : (x == (i : Int)) with
      | true =>
       have yB : (x != (i : Int)) = false := by rw [bne, hq]; rfl
       have HKT := ak (show (b.free.take (k + 1)).filter (g7 (i : Int)) = lk by rw [hkt, hq]; simp)
       clear hrd hkt hxx hlk
       go_wp2_with fail
       go_roundw
       case rel => exact ⟨k + 1, by omega, by go_num, aZ, bT, bl, bU, cb, ⟨by rw [HKT.out]; exact iM.out⟩, jt, an⟩
       case measure => simp [intOf]; omega
      | false =>
       have yB : (x != (i : Int)) = true := by rw [bne, hq]; rfl
       obtain ⟨l1, yC⟩ : ∃ l1, l1 = lk ++ [x] := ⟨_, rfl⟩
       have tW := ak yC
       have HKT := ak (show (b.free.take (k + 1)).filter (g7 (i : Int)) = l1 by rw [hkt, hq, yC]; simp)
       clear hrd hkt hxx hlk yC
       go_wp2_with (first
        | ((with_reducible refine cy (b := .append) (xs := #[.tmp 55, .tmp 57]) rfl ?_); at_builtin; refine Kd.R_append (Kd.int .i64) (w0 := W) b2 rfl (.tmp 55) (.tmp 57) 31 3 (.int .i64 0) 8 rfl Try.underlying31 xp rfl (by decide) (by omega) _ lk x [.int .i64 x] (fun _ => True) (fun _ => False) rfl rfl rfl (fun _ hk => hk.elim) (fun _ _ => trivial) iM.out (Below.refl _ _) jt.out (by have := HLL.out; omega) ?_; intro v_ W1 bc I J gp; rw [← tW.out] at bc; have au := ak (aZ.out.grown J (aZ.out.ne_row iM.out (by decide))); have cd := ak (bT.out.grown J (bT.out.ne_row iM.out (by decide))); have bC := ak (vM bl.out (fun _ h_ => h_) iM.out J); have bJ := ak (vM bU.out (fun _ h_ => h_) iM.out J); have b7 := ak (Kd.R_over cb.out iM.out (by decide) J); have wv := ak (bc); have ll := ak (Nat.le_trans jt.out J.size); have aA := ak (an.out.trans (I.mono HWB.out)); obtain ⟨AL, cL, rfl⟩ := Kd.R_slice bc; clear bc I J gp aZ bT bl bU cb iM jt an))
       go_roundw
       case rel => exact ⟨k + 1, by omega, by go_num, au, cd, bC, bJ, b7, ⟨by rw [HKT.out]; exact wv.out⟩, ll, aA⟩
       case measure => simp [intOf]; omega
     ·obtain rfl : k = b.free.length := by omega
      have hkb : decide ((b.free.length : Int) < (b.free.length : Int)) = false := by simp
      rw [List.take_of_length_le (Nat.le_refl b.free.length)] at iM
      obtain ⟨lk, hlk⟩ : ∃ lk, lk = b.free.filter (g7 (i : Int)) := ⟨_, rfl⟩
      rw [← hlk] at iM
      have HGB := ak (show gE b i a = ⟨b.addr, b.aff, sl, lk, eZ b.attrs a⟩ by rw [hlk, ← HSL.out]; rfl)
      obtain ⟨Al, cl, rfl⟩ := Kd.R_slice iM.out
      clear hlk hfl
      have qf := aZ.out.cell 3 _ rfl
      have Kv := aZ.out.frozen 3
      go_wp2_with (first
       | ((with_reducible refine aJ (N := 62) rfl ?_); generalize cr : W.setCell ⟨gX, 3, none⟩ (.slice Al lk.length cl) = W1; have J : W.grownBy W1 (some gX) := (by rw [← cr]; exact bP _ _ _ _); have au := ak (aZ.out.set 3 (.slice Al lk.length cl)); have cd := gm bT aU J; have bC := gr bl aZ J; have bJ := gr bU aZ J; have b7 := gr cb aZ J; have wv := gr iM aZ J; have ll := ak (Nat.le_trans jt.out J.size); have aA := gb an cw J; rw [cr] at au; clear cr J aZ bT bl bU cb iM jt an qf Kv; refine aN rfl 62 (.tmp 3) rfl gX rfl _ _ _ au.out Try.underlying62 rfl 5 (by kernel_rfl) rfl ?_)
       | (refine a7 rfl 62 (.tmp 6) (.tmp 62) rfl gZ (dH b.addr b.aff (.slice (some ⟨gs, 0, none⟩) b.slots.length cs) (.slice Al lk.length cl) (.slice AM M1.length cM)) rfl rfl 62 _ cd.out 5 (by kernel_rfl) rfl rfl (et _ _ rfl rfl rfl) ?_; intro W2 aa J; have aI := gn au aU J; have de := ak (aa); have b4 := gr bC cd J; have ch := gr bJ cd J; have dm := gr b7 cd J; have K1 := gr wv cd J; have dk := ak (Nat.le_trans ll.out J.size); have aK := gb aA ct J; clear aa J au cd bC bJ b7 wv ll aA))
      refine bodyPost_ret (results_cell_row rfl _ _ gZ 62 _ (0, 0) _ rfl de.out Try.underlying62 rfl (by kernel_rfl)) rfl ⟨_, rfl, ?_, aK.out⟩
      rw [HGB.out]
      refine ⟨_, _, _, rfl, ?_, ?_, ?_⟩
      ·exact Kd.R_lower (Kd.R_mono b4.out (fun _ _ => trivial)) cG.out
      ·exact Kd.R_lower K1.out HWB.out
      ·rw [← CE.out]; exact Kd.R_lower dm.out cG.out
end Go.Proofs.Ytemhalnhbgkbcaa.V
end

section
namespace Go.Proofs.Ytemhalnhbgkbcaa.V
def mc (k : Nat) (s : Int) : Int := if s > (k : Int) + 1 then s - 1 else s
def kS (b : Bk) (k : Nat) : Bk := ⟨b.addr, b.aff, b.slots.map (mc k), b.free, b.attrs.take k ++ b.attrs.drop (k + 1)⟩
def oa (k : Nat) (l : List Int) (j : Nat) : List Int := (l.take j).map (mc k) ++ l.drop j
theorem DP (k : Nat) (l : List Int) (j : Nat) (h : j < l.length) : rd (oa k l j) j = l[j] := by
 unfold oa rd
 have e : ((l.take j).map (mc k)).length = j := by rw [List.length_map, List.length_take]; omega
 rw [Int.toNat_natCast, List.getD_eq_getElem?_getD, List.getElem?_append_right (by omega), e, Nat.sub_self, List.getElem?_drop, Nat.add_zero, List.getElem?_eq_getElem h]
 rfl
theorem DO (k : Nat) (l : List Int) (j : Nat) (h : j < l.length) : (oa k l j).set j (mc k l[j]) = oa k l (j + 1) := by
 unfold oa
 have e : ((l.take j).map (mc k)).length = j := by rw [List.length_map, List.length_take]; omega
 rw [List.set_append, if_neg (by omega), e, Nat.sub_self, List.drop_eq_getElem_cons h, List.set_cons_zero, List.take_succ_eq_append_getElem h, List.map_append]
 simp
theorem Co (k : Nat) (l : List Int) (j : Nat) (h : j < l.length) (hs : mc k l[j] = l[j]) : oa k l (j + 1) = oa k l j := by
 unfold oa
 rw [List.take_succ_eq_append_getElem h, List.map_append, List.drop_eq_getElem_cons h]
 simp [hs]
theorem DQ (k : Nat) (l : List Int) : oa k l l.length = l.map (mc k) := by simp [oa]
def qu.T2 : Bool × List (List Nat × List Nat) := (true, [([], []), ([0], [0]), ([], []), ([1, 2], [1, 2]), ([], []), ([4], [4]), ([], []), ([6], [6]), ([5, 7], [5, 7]), ([3, 8], [3, 8]), ([0, 1, 2, 3, 4, 5, 6, 7, 8, 9], []), ([10, 9, 9, 0, 1, 2, 3, 4, 5, 6, 7, 8, 9], [9, 10])])
def qu.B2 : List Nat := [0, 1, 0, 7, 0, 16, 0, 64, 240, 511, 1023, 2047]
theorem qu.tab2 : eI .any (opsOf Try.f108 2) = qu.T2 := by kernel_rfl
theorem qu.bits2 : eb qu.T2.2 qu.B2 = true := by kernel_rfl
set_option maxHeartbeats 16000000 in
set_option maxRecDepth 100000 in
theorem KI (b : Bk) (hl : b.slots.length = 64) (TJ : pI b.slots) (hf : b.free.length ≤ 5000) (ha : b.attrs.length ≤ 100) (k : Nat) (hk : k < b.attrs.length) (v : Value) (w : World) (h : jL w v b) :
  Calls Try.prog 108 #[v, .int .i64 k] w fun e w' => ∃ v', e = .returned v' ∧ fw w' w.heap.size v' (kS b k) ∧ Below w.heap.size w w' := by
 obtain ⟨M, JR, Ju, JS, Jx, JT, Jz, rfl, hr⟩ := h
 have AD := ak hr.m
 have hml : M.length = b.attrs.length := by rw [hr.m, List.length_map]
 have HR := ak hr
 have HL := ak hl
 have Mc := ak TJ
 have D1 : M.length ≤ 100 := by omega
 have hkm : k < M.length := by omega
 have HCP := ak (fun w h => C5 b (by omega) hf M (by omega) JR Ju JS Jx JT Jz w h)
 have an := ak (Below.refl w.heap.size w)
 clear hr hl hml hf TJ
 go_enter Try.func108, Try.ntmps108
 go_wp2_with (first
  | (refine aV rfl 62 (.tmp 0) rfl _ rfl ?_; intro gX W1 J aa I; have cw := ge an J; have aA := ak (an.out.trans (I.mono an.out.size)); have au := ak (aa); clear J aa I an)
  | (refine aH (some 4) rfl rfl 62 rfl dW (fun _ => by kernel_rfl) ?_; intro gZ W2 J aa I; have ct := ge aA J; have aU := ne au J; have aK := mv I aA; have aI := mv I au; have de := ak (aa); clear J aa I aA au)
  | ((with_reducible refine aJ (N := 7) rfl ?_); go_loud (refine aN rfl 62 (.tmp 2) rfl gX rfl _ _ _ aI.out Try.underlying62 rfl 5 (by kernel_rfl) rfl ?_))
  | (go_at_call 85; go_loud (refine (HCP.out _ (HR.out.below aK.out)).mono ?_; rintro e W3 ⟨vs, vf, va, rfl, vI, dM, ew, I⟩; obtain ⟨As, cs, rfl⟩ := Kd.R_slice vI; obtain ⟨Af, cf, rfl⟩ := Kd.R_slice dM; obtain ⟨Aa, ca, rfl⟩ := Kd.R_slice ew; have HSZ := ak aK.out.size; have aT := mv I aK; have aQ := mv I aI; have cD := mv I de; have cH := ak (vI); have cW := ak (dM); have dT := ak (ew); have dj := ak (I.size); clear vI dM ew I aK aI de))
  | (go_loud (refine a7 rfl 62 (.tmp 2) (.tmp 8) rfl gX (dH b.addr b.aff (.slice As b.slots.length cs) (.slice Af b.free.length cf) (.slice Aa M.length ca)) rfl rfl 62 _ aQ.out 5 (by kernel_rfl) rfl rfl (et _ _ rfl rfl rfl) ?_; intro W4 aa J; have bq := gb aT cw J; have bg := ak (aa); have bB := gm cD aU J; have dC := gr cH aQ J; have cU := gr cW aQ J; have dZ := gr dT aQ J; have di := ak (Nat.le_trans dj.out J.size); clear aa J aT aQ cD cH cW dT dj)))
 obtain ⟨b1, cI⟩ : ∃ b1, b1 = W2.heap.size := ⟨_, rfl⟩
 rw [← cI] at dC cU dZ di HSZ
 have cG := ak (show w.heap.size ≤ b1 from HSZ.out)
 clear cI HSZ
 have aq : Below W4.heap.size W4 W4.drew := bL (Below.refl _ _)
 have bE := mv aq bq; have bz := mv aq bg; have bY := mv aq bB; have dG := mv aq dC; have cQ := mv aq cU; have dw := mv aq dZ; have dY := ak (Nat.le_trans di.out aq.size)
 clear aq bq bg bB dC cU dZ di
 obtain ⟨gs, rfl⟩ := pJ dG.out (by have := HL.out; omega)
 obtain ⟨ga, rfl⟩ := pJ dw.out (by omega)
 have hca : M.length ≤ ca := (Kd.R_reads' dw.out).2.1
 have HTK := ak (Kd.R_take dw.out (m := k) (by omega))
 have hdr := Kd.C_drop (m := k + 1) (Kd.R_reads' dw.out).2.2 (by omega) hca
 rw [show (M.drop (k + 1)).length = M.length - (k + 1) from List.length_drop] at hdr
 have HDR := ak hdr
 have p1 : ((k : Int) ≤ (ca : Int)) = True := eq_true (by omega)
 have p2 : ((k : Int) + 1 ≤ (M.length : Int)) = True := eq_true (by omega)
 have p3 : ((k : Int) ≤ (k : Int) + 1) = True := eq_true (by omega)
 have p4 : ((0 : Int) ≤ (k : Int) + 1) = True := eq_true (by omega)
 have hw1 : wrap64 ((k : Int) + 1) = (k : Int) + 1 := iC _ (by omega) (by omega)
 clear hdr
 obtain ⟨M1, El⟩ : ∃ M1, M1 = M.take k ++ M.drop (k + 1) := ⟨_, rfl⟩
 have MA := ak El
 have CG := ak (show M1 = (b.attrs.take k ++ b.attrs.drop (k + 1)).map vc by rw [El, AD.out, List.map_append, List.map_take, List.map_drop])
 clear El
 by_cases hne : ca = k + 1
 ·subst hne
  have h_ := HDR.out
  rw [if_pos rfl, show M.length - (k + 1) = 0 by omega] at h_
  have K2 := ak h_
  clear h_
  refine dR (n := 12) (S := fun w' => w'.cell? ⟨gX, 4, none⟩ = some (.slice (some ⟨ga, 0, none⟩) M.length (k + 1))) (ds := [11]) #[false, false, false, false, false, false, false, false, false, false, false, false] (by kernel_rfl) rfl rfl (bz.out.cell 4 _ rfl) (fun hHeld => ?_); refine b5 qu.tab2 qu.bits2 (fun ag bM => ?_)
  refine pu 0 ag.out ?_
  refine tk 1 ag.out bM.out hHeld ?_
  refine pu 2 ag.out ?_
  refine pu 3 ag.out ?_
  refine pu 4 ag.out ?_
  refine tk 5 ag.out bM.out hHeld ?_
  refine pu 6 ag.out ?_
  refine pu 7 ag.out ?_
  refine pu 8 ag.out ?_
  refine on 9 ag.out (fun K hK => ?_)
  refine Kd.R_append_rows_step ia (Rr := ia.K _) (w0 := W4.drew) b1 (by rfl) (.tmp 12) (.tmp 17) 49 76 (.agg #[.string ⟨#[]⟩, .string ⟨#[]⟩]) 32 rfl Try.underlying49 vY rfl (by decide) (by omega) (.slice (some ⟨ga, 0, none⟩) k (k + 1)) (M.take k) (M.drop (k + 1)) (some ⟨ga, 0, none⟩) 0 0 (fun _ => True) (fun _ => False) rfl rfl HTK.out K2.out (fun x cs aa => by rw [yT aa]; exact yc _ _ _ _) (fun _ h_ => h_.elim) (fun _ _ => trivial) (Below.refl _ _) dY.out (by rw [List.length_take]; omega) ?_
  intro v_ V1 bc I J gp
  replace J : W4.drew.grownBy V1 (Value.slice (some ⟨ga, 0, none⟩) M.length (k + 1)).ownBlock := J
  rw [← MA.out] at bc
  have bZ := ak (bE.out.trans (I.mono cG.out)); have bH := ak (bz.out.grown J (bz.out.ne_row dw.out (by decide))); have cn := ak (bY.out.grown J (bY.out.ne_row dw.out (by decide))); have dN := ak (Kd.R_over dG.out dw.out (by decide) J); have dD := ak (Kd.R_over cQ.out dw.out (by decide) J); have ez := ak (bc); have du := ak (Nat.le_trans dY.out J.size)
  obtain ⟨AM, cM, rfl⟩ := Kd.R_slice bc
  clear bc I J gp bE bz bY dG cQ dw dY
  refine kn hK (bH.out.cell 4 _ rfl) (fun hHeld => ?_)
  clear hK K
  refine pu 10 ag.out ?_
  refine vW (i := 11) (N := none) #[true, true, true, true, true, true, true, true, true, true, true, true] rfl rfl (ph ag.out (by kernel_rfl)) (by decide) (fun K hK => ?_)
  have D9 := bH.out.frozen 4; have pA := bH.out.cell 4 _ rfl
  refine rm (w1 := ?_) (by rfl) rfl ?_ ?_
  rotate_left
  ·go_simp
   rfl
  refine hK.out _ _ ?_
  clear hK K
  refine dn ag.out ?_
  clear D9 pA hHeld
  generalize cr : V1.setCell ⟨gX, 4, none⟩ (.slice AM M1.length cM) = W7; have J : V1.grownBy W7 (some gX) := (by rw [← cr]; exact bP _ _ _ _); have eH := gb bZ cw J; have dP := ak (bH.out.set 4 (.slice AM M1.length cM)); have ep := gm cn aU J; have gq := gr dN bH J; have fA := gr dD bH J; have ju := gr ez bH J; have iY := ak (Nat.le_trans du.out J.size); rw [cr] at dP; clear cr J bZ bH cn dN dD ez du
  have wA := cG
  have kR := dP.out.cell 2 _ rfl
  go_wp2_with fail
  clear kR
  go_loopw [5, 6, 23] (fun _ _ u W => ∃ j : Nat, j ≤ 64 ∧ u = .int .i64 j ∧ Aside0 (aX W gX (dH b.addr b.aff (.slice (some ⟨gs, 0, none⟩) b.slots.length cs) (.slice Af b.free.length cf) (.slice AM M1.length cM)) 62) ∧ Aside0 (aX W gZ dW 62) ∧ Aside0 (Kd.R (Kd.int .i64) 3 W b1 (fun k => some k ≠ (Value.slice Af b.free.length cf).ownBlock) (.slice (some ⟨gs, 0, none⟩) b.slots.length cs) (oa k b.slots j)) ∧ Aside0 (Kd.R (Kd.int .i64) 3 W b1 (fun k => some k ≠ (Value.slice (some ⟨gs, 0, none⟩) b.slots.length cs).ownBlock) (.slice Af b.free.length cf) b.free) ∧ Aside0 (Kd.R ia 76 W b1 (fun _ => True) (.slice AM M1.length cM) M1) ∧ Aside0 (Below w.heap.size w W)) (fun _ _ u _ => 64 - (intOf u).toNat)
  case atStart => exact ⟨0, by omega, rfl, dP, ep, gq, fA, ju, eH⟩
  case round =>
   clear eH dP ep gq fA ju iY
   obtain ⟨j, hj, rfl, aZ, bT, bl, bU, cb, an⟩ := hrel
   obtain ⟨W, rfl⟩ : ∃ W : World, W = wr := ⟨_, rfl⟩
   by_cases hjn : j < 64
   ·have hkb : decide ((j : Int) < (b.slots.length : Int)) = true := by rw [HL.out]; simp; omega
    have hjl : j < b.slots.length := by rw [HL.out]; exact hjn
    have hcl := mK bl.out j hjl
    rw [DP k b.slots j hjl] at hcl
    have hms := Mc.out _ (List.getElem_mem hjl)
    have hst := DO k b.slots j hjl
    have hsm := Co k b.slots j hjl
    obtain ⟨m, hm⟩ : ∃ m : Nat, b.slots[j] = (m : Int) := ⟨(b.slots[j]).toNat, by omega⟩
    rw [hm] at hcl hms hst hsm
    have sy := hcl.1
    have pj : ((j : Int) < (b.slots.length : Int)) = True := eq_true (by omega)
    have kR := aZ.out.cell 2 _ rfl
    have sB := hms.2
    by_cases hgt : (m : Int) > (k : Int) + 1
    ·have wa := hcl.2
     have HST := ak (show (oa k b.slots j).set j ((m : Int) - 1) = oa k b.slots (j + 1) by rw [← hst]; congr 1; unfold mc; rw [if_pos hgt])
     have HJL := ak hjl
     clear hcl hst hsm hms hm
     go_wp2_with fail
     generalize cr : W.setCell ⟨gs, j, none⟩ (.int .i64 ((m : Int) - 1)) = W1; have J : W.grownBy W1 (some gs) := (by rw [← cr]; exact (oA bl.out j HJL.out ((m : Int) - 1)).2); have au := ak (aZ.out.grown J (aZ.out.ne_row bl.out (by decide))); have cd := ak (bT.out.grown J (bT.out.ne_row bl.out (by decide))); have bC := ak ((oA bl.out j HJL.out ((m : Int) - 1)).1); have bJ := ak (Kd.R_grown bU.out J (fun k_ dS => dS)); have b7 := ak (Kd.R_over cb.out bl.out (by decide) J); have aA := ak (an.out.grown J an.out.size (by intro k hk; cases hk; exact Nat.le_trans wA.out (Kd.R_base bl.out gs rfl))); rw [cr] at bC; clear cr J aZ bT bl bU cb an sy wa kR
     rw [HST.out] at bC
     go_roundw
     case rel => exact ⟨j + 1, by omega, by go_num, au, cd, bC, bJ, b7, aA⟩
     case measure => simp [intOf]; omega
    ·have HST := ak (hsm (by unfold mc; rw [if_neg hgt]))
     clear hcl hst hsm hms hm
     go_wp2_with fail
     go_roundw
     case rel => exact ⟨j + 1, by omega, by go_num, aZ, bT, ⟨by rw [HST.out]; exact bl.out⟩, bU, cb, an⟩
     case measure => simp [intOf]; omega
   ·obtain rfl : j = 64 := by omega
    rw [show ((64 : Nat) : Int) = (64 : Int) from rfl]
    have hkb : decide ((64 : Int) < (b.slots.length : Int)) = false := by rw [HL.out]; decide
    have hall := DQ k b.slots
    rw [HL.out] at hall
    rw [hall] at bl
    have HSN := ak (show b.slots.length = (b.slots.map (mc k)).length by rw [List.length_map])
    clear hall
    go_wp2_with (first
     | ((with_reducible refine aJ (N := 39) rfl ?_); go_loud (refine aN rfl 62 (.tmp 2) rfl gX rfl _ _ _ aZ.out Try.underlying62 rfl 5 (by kernel_rfl) rfl ?_))
     | (go_loud (refine a7 rfl 62 (.tmp 4) (.tmp 39) rfl gZ (dH b.addr b.aff (.slice (some ⟨gs, 0, none⟩) b.slots.length cs) (.slice Af b.free.length cf) (.slice AM M1.length cM)) rfl rfl 62 _ bT.out 5 (by kernel_rfl) rfl rfl (et _ _ rfl rfl rfl) ?_; intro W1 aa J; have au := gn aZ aU J; have cd := ak (aa); have bC := gr bl bT J; have bJ := gr bU bT J; have b7 := gr cb bT J; have aA := gb an ct J; clear aa J aZ bT bl bU cb an)))
    refine bodyPost_ret (results_cell_row rfl _ _ gZ 62 _ (0, 0) _ rfl cd.out Try.underlying62 rfl (by kernel_rfl)) rfl ⟨_, rfl, ⟨_, _, _, rfl, ?_, ?_, ?_⟩, aA.out⟩
    ·exact Kd.R_lower (Kd.R_mono bC.out (fun _ _ => trivial)) cG.out
    ·exact Kd.R_lower (Kd.R_mono bJ.out (fun _ _ => trivial)) cG.out
    ·show Kd.R _ _ _ _ _ _ ((b.attrs.take k ++ b.attrs.drop (k + 1)).map vc)
     rw [← CG.out]
     exact Kd.R_lower b7.out cG.out
 ·have h_ := HDR.out
  rw [if_neg hne] at h_
  have e_ : (some (⟨ga, 0, none⟩ : Addr)).map (fun x => x.add ((k + 1) * ia.sz)) = some ⟨ga, (k + 1) * 2, none⟩ := by
   rw [Option.map_some, add_plain]
   rfl
  rw [e_] at h_
  clear e_
  have K2 := ak h_
  clear h_
  refine dR (n := 12) (S := fun w' => w'.cell? ⟨gX, 4, none⟩ = some (.slice (some ⟨ga, 0, none⟩) M.length ca)) (ds := [11]) #[false, false, false, false, false, false, false, false, false, false, false, false] (by kernel_rfl) rfl rfl (bz.out.cell 4 _ rfl) (fun hHeld => ?_); refine b5 qu.tab2 qu.bits2 (fun ag bM => ?_)
  refine pu 0 ag.out ?_
  refine tk 1 ag.out bM.out hHeld ?_
  refine pu 2 ag.out ?_
  refine pu 3 ag.out ?_
  refine pu 4 ag.out ?_
  refine tk 5 ag.out bM.out hHeld ?_
  refine pu 6 ag.out ?_
  refine pu 7 ag.out ?_
  refine pu 8 ag.out ?_
  refine on 9 ag.out (fun K hK => ?_)
  refine Kd.R_append_rows_step ia (Rr := ia.K _) (w0 := W4.drew) b1 (by rfl) (.tmp 12) (.tmp 17) 49 76 (.agg #[.string ⟨#[]⟩, .string ⟨#[]⟩]) 32 rfl Try.underlying49 vY rfl (by decide) (by omega) (.slice (some ⟨ga, 0, none⟩) k ca) (M.take k) (M.drop (k + 1)) (some ⟨ga, (k + 1) * 2, none⟩) (M.length - (k + 1)) (ca - (k + 1)) (fun _ => True) (fun _ => False) rfl rfl HTK.out K2.out (fun x cs aa => by rw [yT aa]; exact yc _ _ _ _) (fun _ h_ => h_.elim) (fun _ _ => trivial) (Below.refl _ _) dY.out (by rw [List.length_take]; omega) ?_
  intro v_ V1 bc I J gp
  replace J : W4.drew.grownBy V1 (Value.slice (some ⟨ga, 0, none⟩) M.length ca).ownBlock := J
  rw [← MA.out] at bc
  have bZ := ak (bE.out.trans (I.mono cG.out)); have bH := ak (bz.out.grown J (bz.out.ne_row dw.out (by decide))); have cn := ak (bY.out.grown J (bY.out.ne_row dw.out (by decide))); have dN := ak (Kd.R_over dG.out dw.out (by decide) J); have dD := ak (Kd.R_over cQ.out dw.out (by decide) J); have ez := ak (bc); have du := ak (Nat.le_trans dY.out J.size)
  obtain ⟨AM, cM, rfl⟩ := Kd.R_slice bc
  clear bc I J gp bE bz bY dG cQ dw dY
  refine kn hK (bH.out.cell 4 _ rfl) (fun hHeld => ?_)
  clear hK K
  refine pu 10 ag.out ?_
  refine vW (i := 11) (N := none) #[true, true, true, true, true, true, true, true, true, true, true, true] rfl rfl (ph ag.out (by kernel_rfl)) (by decide) (fun K hK => ?_)
  have D9 := bH.out.frozen 4; have pA := bH.out.cell 4 _ rfl
  refine rm (w1 := ?_) (by rfl) rfl ?_ ?_
  rotate_left
  ·go_simp
   rfl
  refine hK.out _ _ ?_
  clear hK K
  refine dn ag.out ?_
  clear D9 pA hHeld
  generalize cr : V1.setCell ⟨gX, 4, none⟩ (.slice AM M1.length cM) = W7; have J : V1.grownBy W7 (some gX) := (by rw [← cr]; exact bP _ _ _ _); have eH := gb bZ cw J; have dP := ak (bH.out.set 4 (.slice AM M1.length cM)); have ep := gm cn aU J; have gq := gr dN bH J; have fA := gr dD bH J; have ju := gr ez bH J; have iY := ak (Nat.le_trans du.out J.size); rw [cr] at dP; clear cr J bZ bH cn dN dD ez du
  have wA := cG
  have kR := dP.out.cell 2 _ rfl
  go_wp2_with fail
  clear kR
  go_loopw [5, 6, 23] (fun _ _ u W => ∃ j : Nat, j ≤ 64 ∧ u = .int .i64 j ∧ Aside0 (aX W gX (dH b.addr b.aff (.slice (some ⟨gs, 0, none⟩) b.slots.length cs) (.slice Af b.free.length cf) (.slice AM M1.length cM)) 62) ∧ Aside0 (aX W gZ dW 62) ∧ Aside0 (Kd.R (Kd.int .i64) 3 W b1 (fun k => some k ≠ (Value.slice Af b.free.length cf).ownBlock) (.slice (some ⟨gs, 0, none⟩) b.slots.length cs) (oa k b.slots j)) ∧ Aside0 (Kd.R (Kd.int .i64) 3 W b1 (fun k => some k ≠ (Value.slice (some ⟨gs, 0, none⟩) b.slots.length cs).ownBlock) (.slice Af b.free.length cf) b.free) ∧ Aside0 (Kd.R ia 76 W b1 (fun _ => True) (.slice AM M1.length cM) M1) ∧ Aside0 (Below w.heap.size w W)) (fun _ _ u _ => 64 - (intOf u).toNat)
  case atStart => exact ⟨0, by omega, rfl, dP, ep, gq, fA, ju, eH⟩
  case round =>
   clear eH dP ep gq fA ju iY
   obtain ⟨j, hj, rfl, aZ, bT, bl, bU, cb, an⟩ := hrel
   obtain ⟨W, rfl⟩ : ∃ W : World, W = wr := ⟨_, rfl⟩
   by_cases hjn : j < 64
   ·have hkb : decide ((j : Int) < (b.slots.length : Int)) = true := by rw [HL.out]; simp; omega
    have hjl : j < b.slots.length := by rw [HL.out]; exact hjn
    have hcl := mK bl.out j hjl
    rw [DP k b.slots j hjl] at hcl
    have hms := Mc.out _ (List.getElem_mem hjl)
    have hst := DO k b.slots j hjl
    have hsm := Co k b.slots j hjl
    obtain ⟨m, hm⟩ : ∃ m : Nat, b.slots[j] = (m : Int) := ⟨(b.slots[j]).toNat, by omega⟩
    rw [hm] at hcl hms hst hsm
    have sy := hcl.1
    have pj : ((j : Int) < (b.slots.length : Int)) = True := eq_true (by omega)
    have kR := aZ.out.cell 2 _ rfl
    have sB := hms.2
    by_cases hgt : (m : Int) > (k : Int) + 1
    ·have wa := hcl.2
     have HST := ak (show (oa k b.slots j).set j ((m : Int) - 1) = oa k b.slots (j + 1) by rw [← hst]; congr 1; unfold mc; rw [if_pos hgt])
     have HJL := ak hjl
     clear hcl hst hsm hms hm
     go_wp2_with fail
     generalize cr : W.setCell ⟨gs, j, none⟩ (.int .i64 ((m : Int) - 1)) = W1; have J : W.grownBy W1 (some gs) := (by rw [← cr]; exact (oA bl.out j HJL.out ((m : Int) - 1)).2); have au := ak (aZ.out.grown J (aZ.out.ne_row bl.out (by decide))); have cd := ak (bT.out.grown J (bT.out.ne_row bl.out (by decide))); have bC := ak ((oA bl.out j HJL.out ((m : Int) - 1)).1); have bJ := ak (Kd.R_grown bU.out J (fun k_ dS => dS)); have b7 := ak (Kd.R_over cb.out bl.out (by decide) J); have aA := ak (an.out.grown J an.out.size (by intro k hk; cases hk; exact Nat.le_trans wA.out (Kd.R_base bl.out gs rfl))); rw [cr] at bC; clear cr J aZ bT bl bU cb an sy wa kR
     rw [HST.out] at bC
     go_roundw
     case rel => exact ⟨j + 1, by omega, by go_num, au, cd, bC, bJ, b7, aA⟩
     case measure => simp [intOf]; omega
    ·have HST := ak (hsm (by unfold mc; rw [if_neg hgt]))
     clear hcl hst hsm hms hm
     go_wp2_with fail
     go_roundw
     case rel => exact ⟨j + 1, by omega, by go_num, aZ, bT, ⟨by rw [HST.out]; exact bl.out⟩, bU, cb, an⟩
     case measure => simp [intOf]; omega
   ·obtain rfl : j = 64 := by omega
    rw [show ((64 : Nat) : Int) = (64 : Int) from rfl]
    have hkb : decide ((64 : Int) < (b.slots.length : Int)) = false := by rw [HL.out]; decide
    have hall := DQ k b.slots
    rw [HL.out] at hall
    rw [hall] at bl
    have HSN := ak (show b.slots.length = (b.slots.map (mc k)).length by rw [List.length_map])
    clear hall
    go_wp2_with (first
     | ((with_reducible refine aJ (N := 39) rfl ?_); go_loud (refine aN rfl 62 (.tmp 2) rfl gX rfl _ _ _ aZ.out Try.underlying62 rfl 5 (by kernel_rfl) rfl ?_))
     | (go_loud (refine a7 rfl 62 (.tmp 4) (.tmp 39) rfl gZ (dH b.addr b.aff (.slice (some ⟨gs, 0, none⟩) b.slots.length cs) (.slice Af b.free.length cf) (.slice AM M1.length cM)) rfl rfl 62 _ bT.out 5 (by kernel_rfl) rfl rfl (et _ _ rfl rfl rfl) ?_; intro W1 aa J; have au := gn aZ aU J; have cd := ak (aa); have bC := gr bl bT J; have bJ := gr bU bT J; have b7 := gr cb bT J; have aA := gb an ct J; clear aa J aZ bT bl bU cb an)))
    refine bodyPost_ret (results_cell_row rfl _ _ gZ 62 _ (0, 0) _ rfl cd.out Try.underlying62 rfl (by kernel_rfl)) rfl ⟨_, rfl, ⟨_, _, _, rfl, ?_, ?_, ?_⟩, aA.out⟩
    ·exact Kd.R_lower (Kd.R_mono bC.out (fun _ _ => trivial)) cG.out
    ·exact Kd.R_lower (Kd.R_mono bJ.out (fun _ _ => trivial)) cG.out
    ·show Kd.R _ _ _ _ _ _ ((b.attrs.take k ++ b.attrs.drop (k + 1)).map vc)
     rw [← CG.out]
     exact Kd.R_lower b7.out cG.out
end Go.Proofs.Ytemhalnhbgkbcaa.V
end

section
namespace Go.Proofs.Ytemhalnhbgkbcaa.V
attribute [local go_sem] dA dy ed ec cP cN dz dx
def gj.f (a6 : Int) (a8 : ByteArray) (aW : List Int) (bb : List Int) (aE : List (S76)) (a1 : Int) : Option (Bool) := some (((a1 - (Int.tmod a1 64)) % 4294967296) == a6)
set_option maxHeartbeats 8000000 in
set_option maxRecDepth 100000 in
theorem gj.calls (a6 : Int) (a8 : ByteArray) (dV : Option Addr) (dB : Nat) (aW : List Int) (cV : Option Addr) (cT : Nat) (bb : List Int) (dU : Option Addr) (cJ : Nat) (aE : List (S76)) (a1 : Int) (r : Bool) (w : World) (pv : Kd.C (Kd.int .i64) w dV aW.length aW) (pD : aW.length ≤ dB) (pr : Kd.C (Kd.int .i64) w cV bb.length bb) (pC : bb.length ≤ cT) (pq : Kd.C ia w dU aE.length aE) (pB : aE.length ≤ cJ) (h : gj.f a6 a8 aW bb aE a1 = some r) :
  Calls Try.prog 100 #[.agg #[.int .u32 a6, .string a8, .slice dV aW.length dB, .slice cV bb.length cT, .slice dU aE.length cJ], .int .u32 a1] w fun e w' => e = .returned (.bool r) ∧ Below w.heap.size w w' := by
 have Hf := Try.underlying62
 have oG := ak pv
 have wz := ak pD
 clear pv pD
 have mY := ak pr
 have qC := ak pC
 clear pr pC
 have qA := ak pq
 have wy := ak pB
 clear pq pB
 have HB := ak (Below.refl w.heap.size w)
 have H : (some (((a1 - (Int.tmod a1 64)) % 4294967296) == a6)) = some r := h
 clear h
 obtain rfl := Option.some.inj H
 go_enter Try.func100, Try.ntmps100
 go_wp2_with (first | ((with_reducible refine aJ (N := 2) rfl ?_); refine eY ?hg (N := 2) ?hd (cs := #[.int .u32 a6, .string a8, .slice dV aW.length dB, .slice cV bb.length cT, .slice dU aE.length cJ]) (t := 62) ?hr ?_; (case hd => rfl); (case hg => rfl); (case hr => first | (go_simp; done) | (go_simp; rfl)); intro oJ hg w3 hbox hb; have bR := ak (bA (by repeat (first | (with_reducible first | exact HB.out | apply af | apply ab | apply ai) | exact HB.out)) hb); have bX := ak (hbox); have dh := ak ((by rw [hg]; exact (bo (by repeat (first | (with_reducible first | exact HB.out | apply af | apply ab | apply ai) | exact HB.out))) : w.heap.size ≤ oJ)); have dX := ak ((by rw [hg]; exact (bo (by repeat (first | (with_reducible first | exact HB.out | apply af | apply ab | apply ai) | exact HB.out))) : w.heap.size ≤ oJ)); clear HB; have HB := bR; have lL := bX; have UU := dh; have K5 := dX; clear bR bX dh dX; clear hb hbox hg; have ZH : w3.cell? ⟨oJ, 0, none⟩ = some (.int .u32 a6) := (al lL.out 0).trans rfl; have ZG : w3.cell? ⟨oJ, 1, none⟩ = some (.string a8) := (al lL.out 1).trans rfl; have ZF : w3.cell? ⟨oJ, 2, none⟩ = some (.slice dV aW.length dB) := (al lL.out 2).trans rfl; have ZE : w3.cell? ⟨oJ, 3, none⟩ = some (.slice cV bb.length cT) := (al lL.out 3).trans rfl; have ZD : w3.cell? ⟨oJ, 4, none⟩ = some (.slice dU aE.length cJ) := (al lL.out 4).trans rfl; have Zp := aj lL.out 0; have Zo := aj lL.out 1; have Zn := aj lL.out 2; have Zm := aj lL.out 3; have Zl := aj lL.out 4))
 go_ret
 exact ⟨by first | rfl | (simp [bf, bd] <;> rfl) | (simp [*, bf, bd] <;> rfl), by repeat (first | (with_reducible first | exact HB.out | apply af | apply ab | apply ai | refine aD ?_ K5.out) | exact HB.out)⟩
end Go.Proofs.Ytemhalnhbgkbcaa.V
end

