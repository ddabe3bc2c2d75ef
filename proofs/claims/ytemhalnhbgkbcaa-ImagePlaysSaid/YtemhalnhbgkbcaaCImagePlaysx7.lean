/- The law ImagePlays for every input: texts of ours, put together (part 8 of 17). No further condition. -/
import Derived.Test.YtemhalnhbgkbcaaCImagePlaysx2
import Derived.Test.YtemhalnhbgkbcaaCImagePlaysx6
import Derived.Test.YtemhalnhbgkbcaaCImagePlaysx4
import Derived.Test.YtemhalnhbgkbcaaCImagePlaysx3
import Derived.Outline
import Derived.Test.YtemhalnhbgkbcaaCImagePlaysx5
set_option linter.unusedVariables false
set_option linter.unusedSimpArgs false
open Go.RowKit Go.Proofs.YtemhalnhbgkbcaaW.PrintWords Go.Proofs.YtemhalnhbgkbcaaW.PrintLast Go.Proofs.YtemhalnhbgkbcaaW.PrintMore Go.Proofs.Ytemhalnhbgkbcaa.Z
section
namespace Go.Proofs.Ytemhalnhbgkbcaa.V
theorem QU (s : Nat) (hs : s < 18446744073709551616) (i : Int) (w : World) : Calls Try.prog 21 #[.int .u64 (s : Int), .int .i64 i] w fun e w' => e = .returned (.int .u64 ((mu s i : Nat) : Int)) ∧ Below w.heap.size w w' :=
 (ya s hs i w).mono (by
  rintro e w' ⟨rfl, ⟨nd, rfl⟩⟩
  exact ⟨rfl, ab (Below.refl _ _) nd⟩)
theorem Ln (s : Nat) (hs : s < 18446744073709551616) (i : Int) (w : World) : Calls Try.prog 20 #[.int .u64 (s : Int), .int .i64 i] w fun e w' => e = .returned (.bool (hasB s i)) ∧ Below w.heap.size w w' :=
 (xr s hs i w).mono (by
  rintro e w' ⟨rfl, ⟨nd, rfl⟩⟩
  exact ⟨rfl, ab (Below.refl _ _) nd⟩)
theorem Hj (l : List Int) (k : Nat) (h : k < l.length) (m : Int) (hm : l[k] = m) : mu (gp (l.take k)) (m - 1) = gp (l.take (k + 1)) := by
 unfold gp wF
 rw [List.take_succ_eq_append_getElem h, List.map_append, List.foldl_append, hm]
 rfl
theorem Kg (l : List Int) (k : Nat) (hk : k < 64) : hasB (gp l) (k : Int) = dW l k := by
 have h1 : (gp l).testBit k = decide ((k : Int) ∈ l.map (fun s => s - 1)) := p6 _ k hk
 have h2 : hasB (gp l) (k : Int) = (gp l).testBit k := by
  unfold hasB mW
  have e1 : decide ((0 : Int) ≤ (k : Int)) = true := by simp
  have e2 : decide ((k : Int) < 64) = true := by simp; omega
  rw [e1, e2]
  simp
 rw [h2, h1]
 unfold dW
 rw [Bool.eq_iff_iff, decide_eq_true_eq, List.any_eq_true, List.mem_map]
 constructor
 ·rintro ⟨s, hs, he⟩
  exact ⟨s, hs, by rw [beq_iff_eq]; omega⟩
 ·rintro ⟨s, hs, he⟩
  rw [beq_iff_eq] at he
  exact ⟨s, hs, by omega⟩
def l8 (l : List Int) (k s : Nat) : Int := if 1 ≤ s ∧ s ≤ k ∧ dW l (s - 1) = true then ((fF l s : Nat) : Int) else 0
def il (l : List Int) (k : Nat) : List Int := (List.range 65).map (l8 l k)
theorem uv (l : List Int) (k : Nat) : (il l k).length = 65 := by simp [il]
theorem CK (l : List Int) : il l 0 = List.replicate 65 0 := by
 unfold il
 rw [List.eq_replicate_iff]
 refine ⟨by simp, fun x hx => ?_⟩
 obtain ⟨s, _, rfl⟩ := List.mem_map.1 hx
 unfold l8
 rw [if_neg (by omega)]
theorem EP (l : List Int) (k s : Nat) (hs : s < 65) : (il l k).getD s 0 = l8 l k s := by
 unfold il
 rw [List.getD_eq_getElem?_getD, List.getElem?_map, List.getElem?_range hs]
 rfl
theorem CL (l : List Int) (k : Nat) (hk : k < 64) (h : dW l k = true) : (il l k).set (k + 1) ((fF l (k + 1) : Nat) : Int) = il l (k + 1) := by
 apply List.ext_getElem?
 intro s
 rw [List.getElem?_set]
 unfold il
 simp only [List.length_map, List.length_range, List.getElem?_map]
 by_cases hs : k + 1 = s
 ·subst hs
  rw [if_pos rfl, if_pos (by omega), List.getElem?_range (by omega)]
  show some _ = some (l8 l (k + 1) (k + 1))
  unfold l8
  rw [if_pos ⟨by omega, by omega, h⟩]
 ·rw [if_neg hs]
  rcases Nat.lt_or_ge s 65 with h1 | h1
  ·rw [List.getElem?_range h1]
   show some (l8 l k s) = some (l8 l (k + 1) s)
   unfold l8
   by_cases h2 : 1 ≤ s ∧ s ≤ k ∧ dW l (s - 1) = true
   ·rw [if_pos h2, if_pos ⟨h2.1, by omega, h2.2.2⟩]
   ·rw [if_neg h2, if_neg (fun h3 => h2 ⟨h3.1, by omega, h3.2.2⟩)]
  ·rw [List.getElem?_eq_none (by simpa using h1)]
   rfl
theorem EO (l : List Int) (k : Nat) (h : dW l k = false) : il l (k + 1) = il l k := by
 unfold il
 apply List.map_congr_left
 intro s _
 unfold l8
 by_cases h2 : 1 ≤ s ∧ s ≤ k ∧ dW l (s - 1) = true
 ·rw [if_pos h2, if_pos ⟨h2.1, by omega, h2.2.2⟩]
 ·rw [if_neg h2, if_neg (fun h3 => h2 ⟨h3.1, by
   rcases Nat.lt_or_ge k s with h4 | h4
   ·exfalso
    have : s - 1 = k := by omega
    rw [this, h] at h3
    exact absurd h3.2.2 (by decide)
   ·exact h4, h3.2.2⟩)]
theorem rv (l : List Int) (s : Int) (h : s ∈ l) (h0 : 1 ≤ s) : dW l (s.toNat - 1) = true := by
 unfold dW
 rw [List.any_eq_true]
 exact ⟨s, h, by rw [beq_iff_eq]; omega⟩
theorem EN (l : List Int) (k : Nat) (s : Int) (hs : s ∈ l) (h0 : 0 ≤ s) (h1 : s ≤ (k : Int)) (h2 : s < 65) : (il l k).getD s.toNat 0 = ((fF l s.toNat : Nat) : Int) := by
 rw [EP _ _ _ (by omega)]
 unfold l8
 by_cases h : 1 ≤ s.toNat
 ·rw [if_pos ⟨h, by omega, rv l s hs (by omega)⟩]
 ·have : s.toNat = 0 := by omega
  rw [this, if_neg (by omega)]
  rfl
def ud (l : List Int) (k : Nat) : List Int := (l.take k).map (fun s => ((fF l s.toNat : Nat) : Int)) ++ l.drop k
theorem EZ (l : List Int) (k : Nat) : (ud l k).length = l.length := by
 unfold ud
 rw [List.length_append, List.length_map, List.length_take, List.length_drop]
 omega
theorem JU (l : List Int) : ud l l.length = l.map (fun s => ((fF l s.toNat : Nat) : Int)) := by simp [ud]
theorem JT (l : List Int) (k : Nat) (h : k < l.length) : (ud l k).set k ((fF l (l[k]).toNat : Nat) : Int) = ud l (k + 1) := by
 unfold ud
 have e : ((l.take k).map (fun s => ((fF l s.toNat : Nat) : Int))).length = k := by rw [List.length_map, List.length_take]; omega
 rw [List.set_append, if_neg (by omega), e, Nat.sub_self, List.drop_eq_getElem_cons h, List.set_cons_zero, List.take_succ_eq_append_getElem h, List.map_append]
 simp
end Go.Proofs.Ytemhalnhbgkbcaa.V
end

section
namespace Go.Proofs.Ytemhalnhbgkbcaa.V
def dB.f (l0 : List Int) : Option (List Int) := if l0.length ≤ 4294967296 then some l0 else none
theorem dB.calls (A0 : Option Addr) (c0 : Nat) (l0 : List Int) (r : List Int) (w : World) (lR : Kd.C (Kd.int .u8) w A0 l0.length l0) (iR : l0.length ≤ c0) (h : dB.f l0 = some r) :
  Calls Try.prog 91 #[.slice A0 l0.length c0] w fun e w' => ∃ qh : Value, e = .returned qh ∧ Kd.R (Kd.int .u8) 5 w' w.heap.size (fun _ => True) qh r ∧ Below w.heap.size w w' := by
 unfold dB.f at h
 split at h
 ·rename_i hl
  obtain rfl := Option.some.inj h
  exact Bl l0 A0 c0 w lR iR hl
 ·cases h
end Go.Proofs.Ytemhalnhbgkbcaa.V
end

section
namespace Go.Proofs.Ytemhalnhbgkbcaa.V
attribute [local go_sem] ea dY eB ez dq dp dZ dX
mutual
def cz.j0 : Nat → Int → Int → List Int → Bool → Option (List Int)
 | 0, _, _, _, _ => none
 | k + 1, x1, x2, x7, Ww => if Ww = true then (some x7) else (cz.l0 k x1 x7 (wrap64 (x2 - 1)))
def cz.l0 : Nat → Int → List Int → Int → Option (List Int)
 | 0, _, _, _ => none
 | k + 1, x1, x7, x8 => if x8 ≥ 0 then (if 0 ≤ (wrap64 (8 * x8)) then (if x7.length < 140737488355328 then (cz.l0 k x1 (x7 ++ [(shr .u64 x1 (wrap64 (8 * x8))) % 256]) (wrap64 (x8 - 1))) else (none)) else (none)) else (some x7)
end
def cz.f (k : Nat) (l0 : List Int) (a1 : Int) (a2 : Int) : Option (List Int) := (dB.f l0).bind fun kN => (if a2 < 1 then (cz.j0 k a1 a2 kN true) else (cz.j0 k a1 a2 kN (decide (a2 > 8))))
set_option maxHeartbeats 8000000 in
set_option maxRecDepth 100000 in
theorem cz.calls (k : Nat) (A0 : Option Addr) (c0 : Nat) (l0 : List Int) (a1 : Int) (a2 : Int) (r : List Int) (w : World) (lR : Kd.C (Kd.int .u8) w A0 l0.length l0) (iR : l0.length ≤ c0) (h : cz.f k l0 a1 a2 = some r) :
  Calls Try.prog 66 #[.slice A0 l0.length c0, .int .u64 a1, .int .i64 a2] w fun e w' => ∃ qh : Value, e = .returned (qh) ∧ Kd.R (Kd.int .u8) 5 w' w.heap.size (fun _ => True) qh r ∧ Below w.heap.size w w' := by
 have oH := ak lR
 have xZ := ak iR
 clear lR iR
 have HB := ak (Below.refl w.heap.size w)
 have H : ((dB.f l0).bind fun kN => (if a2 < 1 then (cz.j0 k a1 a2 kN true) else (cz.j0 k a1 a2 kN (decide (a2 > 8))))) = some r := h
 clear h
 replace H := Option.bind_eq_some_iff.mp H
 obtain ⟨kN, xl, H⟩ := H
 replace H : (if a2 < 1 then (cz.j0 k a1 a2 kN true) else (cz.j0 k a1 a2 kN (decide (a2 > 8)))) = some r := H
 have A4 := ak xl
 clear xl
 have QO := ak H
 clear H
 go_enter Try.func66, Try.ntmps66
 go_upto_region 2 with (first | ((with_reducible refine fo (f := 91) rfl ?_); refine jY (some 10) rfl rfl Try.func91 (by kernel_rfl) rfl #[.slice A0 l0.length c0] rfl (by (try simp only [List.map_toArray, List.map_cons, List.map_nil]); first | done | rfl | (simp only [List.length_drop, List.length_take]; rfl)) ?_; (with_reducible refine (dB.calls _ _ l0 kN _ ?side1 ?side2 A4.out).mono ?_); (case side1 => repeat (first | exact oH.out | (with_reducible refine Kd.C_alloc ?_ _) | (with_reducible refine Kd.C_drewN ?_ _) | (with_reducible refine Kd.C_drew ?_))); (case side2 => exact xZ.out); rintro e w6 ⟨Ot, rfl, sW, hb⟩; refine ⟨_, rfl, ?_⟩; have bV := ak (Kd.R_lower sW (bf (by repeat (first | (with_reducible first | exact HB.out | apply af | apply ab | apply ai) | exact HB.out)))); have b4 := ak (bg (by repeat (first | (with_reducible first | exact HB.out | apply af | apply ab | apply ai) | exact HB.out)) hb); clear HB; have Ga := bV; have HB := b4; clear bV b4; (try clear hb); (try clear dD); (try clear hk); (try clear hi); (try clear sW)))
 (try simp only [Act.put, List.setIfInBounds_toArray, List.set_cons_zero, List.set_cons_succ])
 go_cut [16] (fun WG wc => ∃ (kq : Nat) (Cp : Bool), WG = .bool Cp ∧ Aside0 (cz.j0 kq a1 a2 kN Cp = some r) ∧ Aside0 (kq ≤ k) ∧ Aside0 (Kd.R (Kd.int .u8) 5 wc w.heap.size (fun _ => True) Ot kN) ∧ Aside0 (Below w.heap.size w wc))
 case first =>
  have H := QO.out
  clear QO
  by_cases c7 : a2 < 1
  ·rw [if_pos c7] at H
   have mi : decide (a2 < 1) = true := decide_eq_true c7
   clear c7
   (first | rw [mi] | (simp only [kB, lr]; rw [mi]) | skip)
   have H' := ak H
   clear H
   go_wp2
   go_meet
   case rel => exact ⟨_, (true), (by first | rfl | (simp; done) | (simp [*]; done)), H', ⟨by first | omega | exact Nat.le_refl _⟩, ⟨by (with_reducible repeat (first | apply Kd.R_alloc | apply Kd.R_drewN | apply Kd.R_drew)); exact Ga.out⟩, ⟨by repeat (first | (with_reducible first | exact HB.out | apply af | apply ab | apply ai) | exact HB.out)⟩⟩
  ·rw [if_neg c7] at H
   have mi : decide (a2 < 1) = false := decide_eq_false c7
   clear c7
   (first | rw [mi] | (simp only [kB, lr]; rw [mi]) | skip)
   have H' := ak H
   clear H
   go_wp2
   go_meet
   case rel => exact ⟨_, (decide (a2 > 8)), (by first | rfl | (simp; done) | (simp [*]; done)), H', ⟨by first | omega | exact Nat.le_refl _⟩, ⟨by (with_reducible repeat (first | apply Kd.R_alloc | apply Kd.R_drewN | apply Kd.R_drew)); exact Ga.out⟩, ⟨by repeat (first | (with_reducible first | exact HB.out | apply af | apply ab | apply ai) | exact HB.out)⟩⟩
 case rest =>
  clear QO
  obtain ⟨kq, Cp, rfl, HA, Ti, kx, HB⟩ := hcut
  cases kq with
  | zero => exact absurd HA.out (by simp [cz.j0])
  | succ OO =>
   have H := HA.out
   clear HA
   simp only [cz.j0] at H
   by_cases c8 : Cp = true
   ·subst c8
    have H1 : (some kN) = some r := by rw [if_pos rfl] at H; exact H
    clear H
    have H := H1
    clear H1
    obtain rfl := Option.some.inj H
    go_wp2
    go_ret
    exact ⟨_, by first | rfl | (simp [bz, bx] <;> rfl) | (simp [*, bz, bx] <;> rfl), by (with_reducible repeat (first | apply Kd.R_alloc | apply Kd.R_drewN | apply Kd.R_drew)); exact kx.out, by repeat (first | (with_reducible first | exact HB.out | apply af | apply ab | apply ai) | exact HB.out)⟩
   ·replace c8 := Bool.eq_false_iff.mpr c8
    subst c8
    have H1 : (cz.l0 OO a1 kN (wrap64 (a2 - 1))) = some r := by rw [if_neg (show ¬ (false = true) by decide)] at H; exact H
    clear H
    have H := H1
    clear H1
    have H' := ak H
    clear H
    go_wp2
    go_loopg [7, 8] OO (fun kq v7 v8 w' => ∃ (tX : List Int) (qA : Int), v8 = .int .i64 qA ∧ Aside0 (cz.l0 kq a1 tX qA = some r) ∧ Aside0 (kq ≤ OO) ∧ Aside0 (Kd.R (Kd.int .u8) 5 w' w.heap.size (fun _ => True) v7 tX) ∧ Aside0 (Below w.heap.size w w'))
    case atStart => exact ⟨(kN), (wrap64 (a2 - 1)), (by first | rfl | (simp; done) | (simp [*]; done)), H', ⟨Nat.le_refl _⟩, ⟨by (with_reducible repeat (first | apply Kd.R_alloc | apply Kd.R_drewN | apply Kd.R_drew)); exact kx.out⟩, ⟨by repeat (first | (with_reducible first | exact HB.out | apply af | apply ab | apply ai) | exact HB.out)⟩⟩
    case round =>
     clear H'
     obtain ⟨tX, qA, rfl, HA, xb, kx, HB⟩ := hrel
     cases gk with
     | zero => exact absurd HA.out (by simp [cz.l0])
     | succ k2 =>
      have H := HA.out
      clear HA
      simp only [cz.l0] at H
      by_cases c9 : qA ≥ 0
      ·rw [if_pos c9] at H
       have DY : decide (0 ≤ qA) = true := decide_eq_true c9
       clear c9
       obtain ⟨vA, GD⟩ : ∃ j_ : Int, (wrap64 (8 * qA)) = j_ := ⟨_, rfl⟩
       replace H : (if 0 ≤ (vA) then (if tX.length < 140737488355328 then (cz.l0 k2 a1 (tX ++ [(shr .u64 a1 (vA)) % 256]) (wrap64 (qA - 1))) else (none)) else (none)) = some r := by first | (rw [GD] at H; exact H) | (simp only [GD] at H ⊢; exact H)
       have Xa : (IntKind.i64.wrap (8 * qA)) = vA := (kB _).trans GD
       by_cases lE : 0 ≤ (vA)
       ·rw [if_pos lE] at H
        have y5 := eq_true lE
        have Cy : decide (0 ≤ (vA)) = true := decide_eq_true lE
        clear lE
        obtain ⟨Ba, Cu⟩ : ∃ j_ : Int, (shr .u64 a1 (vA)) = j_ := ⟨_, rfl⟩
        replace H : (if tX.length < 140737488355328 then (cz.l0 k2 a1 (tX ++ [(Ba) % 256]) (wrap64 (qA - 1))) else (none)) = some r := by first | (rw [Cu] at H; exact H) | (simp only [Cu] at H ⊢; exact H)
        have W0 : (a1 / 2 ^ min (vA).toNat 64) = Ba := Cu
        have WZ : (vA) ≤ 64 → (a1 / 2 ^ (vA).toNat) = Ba := By Cu
        by_cases oz : tX.length < 140737488355328
        ·rw [if_pos oz] at H
         have Sn := ak oz
         clear oz
         obtain ⟨He, uV⟩ : ∃ y_ : List Int, y_ = (tX ++ [(Ba) % 256]) := ⟨_, rfl⟩
         replace H : (cz.l0 k2 a1 He (wrap64 (qA - 1))) = some r := by first | (rw [uV]; with_reducible exact H) | (have fL := (Option.bind_some _ _).symm.trans H; rw [uV]; with_reducible exact fL) | (have fL := (Option.bind_some _ _).symm.trans H; with_reducible exact fL) | with_reducible exact H | (rw [uV]; exact H) | exact H
         have N2 := ak uV
         clear uV
         have H' := ak H
         clear H
         go_wp2_with (first | ((with_reducible refine bG (b := .append) (xs := #[.tmp 24, .tmp 30]) rfl ?_); at_builtin; refine Kd.R_append (Kd.int .u8) (w0 := w) w.heap.size rfl (.tmp 24) (.tmp 30) 48 5 (.int .u8 0) 1 rfl Try.underlying48 Cs rfl (by decide) (by omega) u7 tX ((Ba) % 256) [.int .u8 ((Ba) % 256)] (fun _ => True) (fun _ => False) rfl rfl ?aP (fun _ hk => hk.elim) ?aF ?aO ?aB ?aS ?aL ?_; (case aP => exact rfl); (case aB => exact (by repeat (first | (with_reducible first | exact HB.out | apply af | apply ab | apply ai) | exact HB.out))); (case aF => exact (fun _ _ => trivial)); (case aO => exact (by (with_reducible repeat (first | apply Kd.R_alloc | apply Kd.R_drewN | apply Kd.R_drew)); exact kx.out)); (case aS => exact (bf (by repeat (first | (with_reducible first | exact HB.out | apply af | apply ab | apply ai) | exact HB.out)))); (case aL => have := Sn.out; omega); intro WC Fm ho hb hg hat; rw [← N2.out] at ho; have bV := ak (hb); have b4 := ak (ho); clear HB; clear kx; have HB := bV; have N9 := b4; clear bV b4; clear ho hb hg hat))
         go_roundg k2
         case measure => have := Ti.out; have := xb.out; omega
         case rel => exact ⟨(He), (wrap64 (qA - 1)), (by first | rfl | (simp; done) | (simp [*]; done)), H', ⟨by have := Ti.out; have := xb.out; omega⟩, ⟨by (with_reducible repeat (first | apply Kd.R_alloc | apply Kd.R_drewN | apply Kd.R_drew)); exact N9.out⟩, ⟨by repeat (first | (with_reducible first | exact HB.out | apply af | apply ab | apply ai) | exact HB.out)⟩⟩
        ·rw [if_neg oz] at H
         exact absurd H (by simp)
       ·rw [if_neg lE] at H
        exact absurd H (by simp)
      ·rw [if_neg c9] at H
       have DY : decide (0 ≤ qA) = false := decide_eq_false c9
       clear c9
       obtain rfl := Option.some.inj H
       go_wp2
       go_ret
       exact ⟨_, by first | rfl | (simp [bz, bx] <;> rfl) | (simp [*, bz, bx] <;> rfl), by (with_reducible repeat (first | apply Kd.R_alloc | apply Kd.R_drewN | apply Kd.R_drew)); exact kx.out, by repeat (first | (with_reducible first | exact HB.out | apply af | apply ab | apply ai) | exact HB.out)⟩
end Go.Proofs.Ytemhalnhbgkbcaa.V
end

section
namespace Go.Proofs.Ytemhalnhbgkbcaa.V
attribute [local go_sem] ea dY eB ez dq dp dZ dX
def oh.f (k : Nat) (l0 : List Int) (a1 : ByteArray) : Option (List Int × Int) := if (a1.size : Int) > 64 then (some (([] : List Int), 1)) else ((cz.f k l0 (IntKind.u64.wrap ((a1.size : Int))) 1).bind fun kJ => (if kJ.length + a1.size < 140737488355328 then (some ((kJ ++ bytesOf a1), 0)) else (none)))
set_option maxHeartbeats 8000000 in
set_option maxRecDepth 100000 in
theorem oh.calls (k : Nat) (A0 : Option Addr) (c0 : Nat) (l0 : List Int) (a1 : ByteArray) (r1 : List Int) (r2 : Int) (w : World) (lR : Kd.C (Kd.int .u8) w A0 l0.length l0) (iR : l0.length ≤ c0) (h : oh.f k l0 a1 = some (r1, r2)) :
  Calls Try.prog 101 #[.slice A0 l0.length c0, .string a1] w fun e w' => ∃ qh : Value, e = .returned (.tuple #[qh, .int .i64 r2]) ∧ Kd.R (Kd.int .u8) 5 w' w.heap.size (fun _ => True) qh r1 ∧ Below w.heap.size w w' := by
 have oH := ak lR
 have xZ := ak iR
 clear lR iR
 have HB := ak (Below.refl w.heap.size w)
 have H : (if (a1.size : Int) > 64 then (some (([] : List Int), 1)) else ((cz.f k l0 (IntKind.u64.wrap ((a1.size : Int))) 1).bind fun kJ => (if kJ.length + a1.size < 140737488355328 then (some ((kJ ++ bytesOf a1), 0)) else (none)))) = some (r1, r2) := h
 clear h
 by_cases c3 : (a1.size : Int) > 64
 ·rw [if_pos c3] at H
  have ny : decide (64 < (a1.size : Int)) = true := decide_eq_true c3
  have yq : decide (64 < a1.size) = true := decide_eq_true (by omega)
  clear c3
  simp only [Option.some.injEq, Prod.mk.injEq] at H
  obtain ⟨rfl, rfl⟩ := H
  go_enter Try.func101, Try.ntmps101
  go_wp2
  go_ret2
  exact ⟨_, by first | rfl | (simp [bz, bx] <;> rfl) | (simp [*, bz, bx] <;> rfl), by first | exact Kd.R_nil _ _ _ _ _ | exact Kd.N_nil _ _ _ _ _ | exact Kd.V_nil _ _ _ _ _ | exact Kd.Q_nil _ _ _ _ _ | exact Kd.S_nil _ _ _ _ _, by repeat (first | (with_reducible first | exact HB.out | apply af | apply ab | apply ai) | exact HB.out)⟩
 ·rw [if_neg c3] at H
  have ny : decide (64 < (a1.size : Int)) = false := decide_eq_false c3
  have yq : decide (64 < a1.size) = false := decide_eq_false (by omega)
  clear c3
  replace H := Option.bind_eq_some_iff.mp H
  obtain ⟨kJ, xl, H⟩ := H
  replace H : (if kJ.length + a1.size < 140737488355328 then (some ((kJ ++ bytesOf a1), 0)) else (none)) = some (r1, r2) := H
  have A4 := ak xl
  clear xl
  by_cases c5 : kJ.length + a1.size < 140737488355328
  ·rw [if_pos c5] at H
   have TV := ak c5
   clear c5
   obtain ⟨Fk, rY⟩ : ∃ y_ : List Int, y_ = (kJ ++ bytesOf a1) := ⟨_, rfl⟩
   replace H : (some (Fk, 0)) = some (r1, r2) := by first | (rw [rY]; with_reducible exact H) | (have fL := (Option.bind_some _ _).symm.trans H; rw [rY]; with_reducible exact fL) | (have fL := (Option.bind_some _ _).symm.trans H; with_reducible exact fL) | with_reducible exact H | (rw [rY]; exact H) | exact H
   have KE := ak rY
   clear rY
   simp only [Option.some.injEq, Prod.mk.injEq] at H
   obtain ⟨rfl, rfl⟩ := H
   go_enter Try.func101, Try.ntmps101
   go_wp2_with (first | ((with_reducible refine fo (f := 66) rfl ?_); refine jY (some 13) rfl rfl Try.func66 (by kernel_rfl) rfl #[.slice A0 l0.length c0, .int .u64 (IntKind.u64.wrap ((a1.size : Int))), .int .i64 1] rfl (by (try simp only [List.map_toArray, List.map_cons, List.map_nil]); first | done | rfl | (simp only [List.length_drop, List.length_take]; rfl)) ?_; (with_reducible refine (cz.calls k _ _ l0 (IntKind.u64.wrap ((a1.size : Int))) 1 kJ _ ?side1 ?side2 A4.out).mono ?_); (case side1 => repeat (first | exact oH.out | (with_reducible refine Kd.C_alloc ?_ _) | (with_reducible refine Kd.C_drewN ?_ _) | (with_reducible refine Kd.C_drew ?_))); (case side2 => exact xZ.out); rintro e w6 ⟨MC, rfl, sW, hb⟩; refine ⟨_, rfl, ?_⟩; have bV := ak (Kd.R_lower sW (bf (by repeat (first | (with_reducible first | exact HB.out | apply af | apply ab | apply ai) | exact HB.out)))); have b4 := ak (bg (by repeat (first | (with_reducible first | exact HB.out | apply af | apply ab | apply ai) | exact HB.out)) hb); clear HB; have Ez := bV; have HB := b4; clear bV b4; (try clear hb); (try clear dD); (try clear hk); (try clear hi); (try clear sW)) | (at_builtin; refine rO (w0 := w) w.heap.size rfl (.tmp 13) _ 48 9 5 rfl Try.underlying48 Try.underlying9 Cs MC kJ a1 rfl rfl ?aO ?aB ?aS ?aL ?_; (case aB => exact (by repeat (first | (with_reducible first | exact HB.out | apply af | apply ab | apply ai) | exact HB.out))); (case aO => exact (Kd.own_of_R (by (with_reducible repeat (first | apply Kd.R_alloc | apply Kd.R_drewN | apply Kd.R_drew)); exact Ez.out))); (case aS => exact (bf (by repeat (first | (with_reducible first | exact HB.out | apply af | apply ab | apply ai) | exact HB.out)))); (case aL => have := TV.out; omega); intro MB w7 sW hb hg; have ho := Kd.R_of_own (h1 := fun _ => rfl) (ok := fun _ => True) sW (fun _ _ => trivial); clear sW; have hat := True.intro; rw [← KE.out] at ho; change Kd.R (Kd.int .u8) 5 w7 w.heap.size (fun _ => True) MB Fk at ho; have bV := ak (hb); have b4 := ak (ho); clear HB; clear Ez; have HB := bV; have KQ := b4; clear bV b4; clear ho hb hg hat))
   go_ret2
   exact ⟨_, by first | rfl | (simp [bz, bx] <;> rfl) | (simp [*, bz, bx] <;> rfl), by (with_reducible repeat (first | apply Kd.R_alloc | apply Kd.R_drewN | apply Kd.R_drew)); exact KQ.out, by repeat (first | (with_reducible first | exact HB.out | apply af | apply ab | apply ai) | exact HB.out)⟩
  ·rw [if_neg c5] at H
   exact absurd H (by simp)
end Go.Proofs.Ytemhalnhbgkbcaa.V
end

section
namespace Go.Proofs.Ytemhalnhbgkbcaa.V
attribute [local go_sem] ea dY eB ez dq dp dZ dX
def jg.f (k : Nat) (l0 : List Int) (a1 : ByteArray) : Option (List Int) := (oh.f k l0 a1).bind fun Bo => (some Bo.1)
set_option maxHeartbeats 8000000 in
set_option maxRecDepth 100000 in
theorem jg.calls (k : Nat) (A0 : Option Addr) (c0 : Nat) (l0 : List Int) (a1 : ByteArray) (r : List Int) (w : World) (lR : Kd.C (Kd.int .u8) w A0 l0.length l0) (iR : l0.length ≤ c0) (h : jg.f k l0 a1 = some r) :
  Calls Try.prog 67 #[.slice A0 l0.length c0, .string a1] w fun e w' => ∃ qh : Value, e = .returned (qh) ∧ Kd.R (Kd.int .u8) 5 w' w.heap.size (fun _ => True) qh r ∧ Below w.heap.size w w' := by
 have oH := ak lR
 have xZ := ak iR
 clear lR iR
 have HB := ak (Below.refl w.heap.size w)
 have H : ((oh.f k l0 a1).bind fun Bo => (some Bo.1)) = some r := h
 clear h
 replace H := Option.bind_eq_some_iff.mp H
 obtain ⟨⟨Hm, Ox⟩, qz, H⟩ := H
 replace H : (some Hm) = some r := H
 have A3 := ak qz
 clear qz
 obtain rfl := Option.some.inj H
 go_enter Try.func67, Try.ntmps67
 go_wp2_with (first | ((with_reducible refine fo (f := 101) rfl ?_); refine jY (some 10) rfl rfl Try.func101 (by kernel_rfl) rfl #[.slice A0 l0.length c0, .string a1] rfl (by (try simp only [List.map_toArray, List.map_cons, List.map_nil]); first | done | rfl | (simp only [List.length_drop, List.length_take]; rfl)) ?_; (with_reducible refine (oh.calls k _ _ l0 a1 Hm Ox _ ?side1 ?side2 A3.out).mono ?_); (case side1 => repeat (first | exact oH.out | (with_reducible refine Kd.C_alloc ?_ _) | (with_reducible refine Kd.C_drewN ?_ _) | (with_reducible refine Kd.C_drew ?_))); (case side2 => exact xZ.out); rintro e w4 ⟨WB, rfl, sW, hb⟩; refine ⟨_, rfl, ?_⟩; have bV := ak (Kd.R_lower sW (bf (by repeat (first | (with_reducible first | exact HB.out | apply af | apply ab | apply ai) | exact HB.out)))); have b4 := ak (bg (by repeat (first | (with_reducible first | exact HB.out | apply af | apply ab | apply ai) | exact HB.out)) hb); clear HB; have N8 := bV; have HB := b4; clear bV b4; (try clear hb); (try clear dD); (try clear hk); (try clear hi); (try clear sW)))
 go_ret
 exact ⟨_, by first | rfl | (simp [bz, bx] <;> rfl) | (simp [*, bz, bx] <;> rfl), by (with_reducible repeat (first | apply Kd.R_alloc | apply Kd.R_drewN | apply Kd.R_drew)); exact N8.out, by repeat (first | (with_reducible first | exact HB.out | apply af | apply ab | apply ai) | exact HB.out)⟩
end Go.Proofs.Ytemhalnhbgkbcaa.V
end

section
namespace Go.Proofs.Ytemhalnhbgkbcaa.V
def qv (n : Nat) : List Int := [((n / 16777216 % 256 : Nat) : Int), ((n / 65536 % 256 : Nat) : Int), ((n / 256 % 256 : Nat) : Int), ((n % 256 : Nat) : Int)]
theorem MG (n i : Nat) (hi : i < 64) : shr .u64 (n : Int) (i : Int) = ((n / 2 ^ i : Nat) : Int) := by
 unfold shr
 rw [Int.toNat_natCast, show min i IntKind.u64.bits = i from Nat.min_eq_left (by simp [IntKind.bits]; omega)]
 have : (2 : Int) ^ i = ((2 ^ i : Nat) : Int) := by simp
 rw [this]
 exact (Int.natCast_ediv _ _).symm
theorem wE (n : Nat) (hn : n < 18446744073709551616) : ∀ (i k : Nat) (xs : List Int), i ≤ 7 → i + 1 < k → xs.length < 1000000 →
  cz.l0 (k + 1) (n : Int) xs (i : Int) = cz.l0 k (n : Int) (xs ++ [((n / 2 ^ (8 * i) % 256 : Nat) : Int)]) ((i : Int) - 1) := by
 intro i k xs hi hk hx
 rw [cz.l0, if_pos (by omega), ik (8 * (i : Int)) (by omega) (by omega), if_pos (by omega), if_pos (by omega), show (8 : Int) * (i : Int) = ((8 * i : Nat) : Int) by omega, MG n (8 * i) (by omega), ik ((i : Int) - 1) (by omega) (by omega)]
 congr 3
theorem Ft (n : Int) (xs : List Int) (k : Nat) : cz.l0 (k + 1) n xs (-1) = some xs := by
 rw [cz.l0, if_neg (by decide)]
theorem JO (xs : List Int) (hx : xs.length < 1000000) (n : Nat) (hn : n < 18446744073709551616) : cz.f 20 xs (n : Int) 1 = some (xs ++ [((n % 256 : Nat) : Int)]) := by
 unfold cz.f dB.f
 rw [if_pos (by omega), Option.bind_some, if_neg (by decide), show decide ((1 : Int) > 8) = false from rfl, cz.j0, if_neg (by decide), show wrap64 ((1 : Int) - 1) = ((0 : Nat) : Int) by unfold wrap64; omega]
 rw [wE n hn 0 18 xs (by omega) (by omega) hx]
 rw [show ((0 : Nat) : Int) - 1 = -1 by omega, Ft]
 simp
theorem Tr (xs : List Int) (hx : xs.length < 100000) (n : Nat) (hn : n < 18446744073709551616) : cz.f 20 xs (n : Int) 4 = some (xs ++ qv n) := by
 unfold cz.f dB.f
 rw [if_pos (by omega), Option.bind_some, if_neg (by decide), show decide ((4 : Int) > 8) = false from rfl, cz.j0, if_neg (by decide), show wrap64 ((4 : Int) - 1) = ((3 : Nat) : Int) by unfold wrap64; omega]
 rw [wE n hn 3 18 xs (by omega) (by omega) (by omega), show ((3 : Nat) : Int) - 1 = ((2 : Nat) : Int) by omega]
 rw [wE n hn 2 17 _ (by omega) (by omega) (by simp; omega), show ((2 : Nat) : Int) - 1 = ((1 : Nat) : Int) by omega]
 rw [wE n hn 1 16 _ (by omega) (by omega) (by simp; omega), show ((1 : Nat) : Int) - 1 = ((0 : Nat) : Int) by omega]
 rw [wE n hn 0 15 _ (by omega) (by omega) (by simp; omega), show ((0 : Nat) : Int) - 1 = -1 by omega, Ft]
 simp [qv]
def fN (s : ByteArray) : List Int := (s.size : Int) :: bytesOf s
theorem gv (s : ByteArray) : (fN s).length = s.size + 1 := by simp [fN, iw]
theorem CM (xs : List Int) (hx : xs.length < 1000000) (s : ByteArray) (hs : s.size ≤ 64) : jg.f 20 xs s = some (xs ++ fN s) := by
 unfold jg.f oh.f
 rw [if_neg (by omega), oK s.size (by omega), JO xs hx s.size (by omega), Option.bind_some, if_pos (by simp; omega), Option.bind_some, show s.size % 256 = s.size by omega]
 simp [fN]
end Go.Proofs.Ytemhalnhbgkbcaa.V
end

section
namespace Go.Proofs.Ytemhalnhbgkbcaa.V
def mj (a : At) : List Int := fN a.f0 ++ fN a.f1
def eJ (b : Bk) (k : Nat) : List Int := 66 :: (qv b.addr.toNat ++ fN b.aff ++ [(b.attrs.length : Int)] ++ (b.attrs.take k).flatMap mj)
def gW (b : Bk) : List Int := eJ b b.attrs.length ++ b.slots ++ [(b.free.length : Int)] ++ b.free
theorem p7 (b : Bk) (k : Nat) (h : k < b.attrs.length) : eJ b (k + 1) = eJ b k ++ fN (gh b.attrs k).f0 ++ fN (gh b.attrs k).f1 := by
 unfold eJ
 rw [uw _ _ h]
 simp [mj]
theorem JC {s : ByteArray} (h : s.toList = []) : s.size = 0 := by
 rw [ByteArray.toList_eq] at h
 have := congrArg List.length h
 rw [uk] at this
 simpa using this
theorem e8 {s : ByteArray} (h : fD s = true) : 0 < s.size ∧ s.size ≤ 64 := by
 unfold fD at h
 simp only [Bool.and_eq_true, decide_eq_true_eq] at h
 exact ⟨h.1.2, h.2⟩
theorem lH {s : ByteArray} (h : fS s = true) : s.size ≤ 64 := by
 unfold fS at h
 rw [Bool.or_eq_true, decide_eq_true_eq] at h
 rcases h with h | h
 ·rw [JC h]; omega
 ·exact (e8 h).2
structure RightP (b : Bk) : Prop where
 first : b9 b.addr = b.addr
 owner : fS b.aff = true
 na : b.attrs.length ≤ 64
 sa : ∀ s ∈ b.slots, s ≤ (b.attrs.length : Int)
 may : ∀ j, j < b.attrs.length → ep (gh b.attrs j) = true
 nd : ∀ j, j < b.attrs.length → (b.attrs.take j).any (sameAt (gh b.attrs j)) = false
 used : (iH (gp b.slots)).length = b.attrs.length
 fr : ∀ j, j < b.free.length → jw b j = false
 zc : b.slots.countP (fun x => x == 0) = b.free.length
theorem im {b : Bk} (h : dC b = true) : RightP b := by
 unfold dC kK kW at h
 simp only [Bool.and_eq_true, decide_eq_true_eq, List.all_eq_true, beq_iff_eq, List.mem_range, Bool.not_eq_true'] at h
 obtain ⟨h1, h2, h3, ⟨h4, h5, h6⟩, h7, h8⟩ := h
 exact ⟨h1, h2, h3, h4, fun j hj => (h5 j hj).1, fun j hj => (h5 j hj).2, h6, h7, h8⟩
theorem RightP.free_len {b : Bk} (h : RightP b) (hl : b.slots.length = 64) : b.free.length ≤ 64 := by
 rw [← h.zc, ← hl]
 exact List.countP_le_length
theorem Kz (a : At) (h : ep a = true) : (mj a).length ≤ 130 := by
 unfold ep at h
 rw [Bool.and_eq_true] at h
 have h1 := (e8 h.1).2
 have h2 := (e8 h.2).2
 simp [mj, gv]
 omega
theorem mX {b : Bk} (h : RightP b) : ∀ k, k ≤ b.attrs.length → (eJ b k).length ≤ 71 + 130 * k := by
 intro k
 induction k with
 | zero =>
  intro _
  have := lH h.owner
  simp [eJ, qv, gv]
  omega
 | succ k ih =>
  intro hk
  have h1 := ih (by omega)
  have h2 := Kz _ (h.may k (by omega))
  rw [p7 _ _ (by omega)]
  simp [mj] at h2 ⊢
  omega
theorem Of {W : World} {g : Nat} {a : Int} {s : ByteArray} {l : List Int} {v v' : Value} {t : Nat} (h : aH W g (aU a s l v v') t) (hl : l.length = 64) : Kd.C (Kd.int .u8) W (some ⟨g, 2, none⟩) 64 l :=
 Kd.C_of_reads (d := (0 : Int)) (h1 := fun _ => rfl) ⟨hl, by omega, fun _ => ⟨_, rfl, fun j hj => by rw [I9]; exact h.slot hl j hj⟩⟩
def sP.T9 : Bool × List (List Nat × List Nat) := (true, [([], []), ([], []), ([1], [1]), ([0, 2], [0, 2]), ([], []), ([4], [4]), ([3, 5, 3], [3, 5]), ([6, 6, 0, 1, 2, 3, 4, 5, 6], [0, 6])])
def sP.B9 : List Nat := [0, 0, 2, 7, 0, 16, 63, 127]
theorem sP.tab9 : ed .any (opsOf Try.f32 9) = sP.T9 := by kernel_rfl
theorem sP.bits9 : dL sP.T9.2 sP.B9 = true := by kernel_rfl
set_option maxHeartbeats 8000000 in
set_option maxRecDepth 100000 in
theorem Dg (b : Bk) (hk : BkOk b) (v : Value) (w : World) (h : iz w v b) :
  Calls Try.prog 32 #[v] w fun e w' => e = .returned (.tuple #[.string (if dC b = true then strOfNums (gW b) else ⟨#[]⟩), .int .i64 (if dC b = true then 0 else 1)]) ∧ Below w.heap.size w w' := by
 obtain ⟨A, c, A', c', rfl, hr⟩ := h
 have HL := ak hr.l64
 have HR := ak hr
 have HK := ak hk
 have tW := ak (ah b.addr b.aff b.slots (.slice A b.free.length c) (.slice A' b.attrs.length c') hr.l64)
 clear hr
 cases hrt : dC b with
 | false =>
  have HRT := ak hrt
  clear hrt hk
  go_enter Try.func32, Try.ntmps32
  go_wp2_with (first
   | (refine aD rfl 57 (.tmp 0) rfl _ rfl ?_; intro g W1 hg hbx bq; have HX := ak hbx; have HB := ak bq; clear hbx bq hg)
   | (refine az rfl 57 (.tmp 1) rfl g rfl _ _ _ HX.out Try.underlying57 rfl 68 (by kernel_rfl) tW.out ?_)
   | (go_at_call 48; refine (ee b HK.out _ _ ⟨A, c, A', c', rfl, HR.out.below HB.out⟩).mono ?_; rintro e W2 ⟨rfl, dD⟩; rw [HRT.out]; have gl := ak (HB.out.trans (dD.mono HB.out.size)); clear dD))
  go_ret2
  exact ⟨rfl, gl.out⟩
 | true =>
  have HRT := ak hrt
  have hp := im hrt
  have HP := ak hp
  have hsz := lH hp.owner
  obtain ⟨n, hn⟩ : ∃ n : Nat, b.addr = (n : Int) := ⟨b.addr.toNat, by have := hk.a0; omega⟩
  have hnl : n < 4294967296 := by have := hk.a1; omega
  have HN := ak hn
  have HNL := ak hnl
  have hfl := hp.free_len HL.out
  have hal := hp.na
  obtain ⟨L1, uZ⟩ : ∃ L1 : List Int, L1 = 66 :: qv b.addr.toNat := ⟨_, rfl⟩
  obtain ⟨L2, yU⟩ : ∃ L2 : List Int, L2 = L1 ++ fN b.aff := ⟨_, rfl⟩
  have HPU := ak (show cz.f 20 [66] (b.addr) 4 = some L1 by rw [hn, Tr [66] (by simp) n (by omega), uZ, hn]; rfl)
  have HT := ak (show jg.f 20 L1 b.aff = some L2 by rw [yU, CM _ (by simp [uZ, qv]) b.aff hsz])
  have HA := ak (show cz.f 20 L2 (b.attrs.length : Int) 1 = some (eJ b 0) by
   rw [JO _ (by simp [yU, uZ, qv, gv]; omega) b.attrs.length (by omega), show b.attrs.length % 256 = b.attrs.length by omega]
   simp [eJ, uZ, yU])
  clear uZ yU
  obtain ⟨L4, yT⟩ : ∃ L4 : List Int, L4 = eJ b b.attrs.length ++ b.slots := ⟨_, rfl⟩
  obtain ⟨L5, BR⟩ : ∃ L5 : List Int, L5 = L4 ++ [(b.free.length : Int)] := ⟨_, rfl⟩
  obtain ⟨L6, DI⟩ : ∃ L6 : List Int, L6 = L5 ++ b.free := ⟨_, rfl⟩
  have XP : L4.length ≤ 9000 := by
   have := mX hp b.attrs.length (Nat.le_refl _)
   have := HL.out
   rw [yT, List.length_append]
   omega
  have HFP := ak (show cz.f 20 L4 (b.free.length : Int) 1 = some L5 by
   rw [JO _ (by omega) b.free.length (by omega), show b.free.length % 256 = b.free.length by omega, BR])
  have HI := ak (show gW b = L6 by rw [DI, BR, yT]; rfl)
  have H4 := ak yT
  have H6 := ak DI
  have HLS := ak (show L5.length + b.free.length ≤ 140737488355328 by rw [BR, List.length_append, List.length_singleton]; omega)
  clear yT BR DI XP
  have HFL := ak hfl
  have HAL := ak hal
  have SM : 0 ≤ b.addr := hk.a0
  have WS : b.addr < 4294967296 := hk.a1
  clear hrt hp hsz hn hnl hk
  go_enter Try.func32, Try.ntmps32
  go_wp2_with (first
   | (refine aD rfl 57 (.tmp 0) rfl _ rfl ?_; intro g W1 hg hbx bq; have HX := ak hbx; have HB := ak bq; clear hbx bq)
   | (refine az rfl 57 (.tmp 1) rfl g rfl _ _ _ HX.out Try.underlying57 rfl 68 (by kernel_rfl) tW.out ?_)
   | (go_at_call 48; refine (ee b HK.out _ _ ⟨A, c, A', c', rfl, HR.out.below HB.out⟩).mono ?_; rintro e W2 ⟨rfl, dD⟩; rw [HRT.out]; have gl := ak (HB.out.trans (dD.mono HB.out.size)); have fv := ak (HX.out.below dD); clear dD HX HB)
   | ((with_reducible refine av (N := 10) rfl ?_); refine Kd.R_lit (Kd.int .u8) w.heap.size 5 (w0 := w) ?hg (N := 10) ?hd (xs := ([66] : List Int)) (inner := [.int .u8 66]) (ok := fun _ => True) (okp := fun _ => True) ?hr ?hp (fun _ hk => hk) trivial gl.out gl.out.size (by simp) ?_; (case hd => rfl); (case hg => rfl); (case hr => first | (go_simp; done) | (go_simp; rfl)); (case hp => exact (Kd.reps_scalar (enc := Value.int .u8) [66])); intro v1 w1 eS bq iu ov; have ix := ak eS; have fO := ak bq; have kj := ak (fv.out.grown iu (by simp)); obtain ⟨A1, c1, rfl⟩ := Kd.R_slice eS; have iR := kj.out.cell 0 _ rfl; clear eS bq iu ov gl fv)
   | (go_at_call 66; obtain ⟨ZF, Zx, hq, hcc, hC⟩ := Kd.R_reads ix.out; cases hq; refine (cz.calls 20 _ _ [66] _ _ _ _ hC hcc HPU.out).mono ?_; rintro e W4 ⟨v4, rfl, vZ, kU⟩; have xX := ak (Kd.R_lower vZ fO.out.size); have gK := ak (fO.out.trans (kU.mono fO.out.size)); have lC := ak (kj.out.below kU); obtain ⟨A4, c4, rfl⟩ := Kd.R_slice vZ; have sg := lC.out.cell 1 _ rfl; clear vZ kU fO kj iR)
   | (go_at_call 67; obtain ⟨ZE, Zw, hq, hcc, hC⟩ := Kd.R_reads xX.out; cases hq; refine (jg.calls 20 _ _ L1 _ _ _ hC hcc HT.out).mono ?_; rintro e W5 ⟨v5, rfl, ou, ox⟩; have xW := ak (Kd.R_lower ou gK.out.size); have lp := ak (gK.out.trans (ox.mono gK.out.size)); have la := ak (lC.out.below ox); obtain ⟨A5, c5, rfl⟩ := Kd.R_slice ou; have DF := la.out.cell 67 _ (ft _ _ _ _ _ HL.out); clear ou ox gK lC sg ix)
   | (go_at_call 66; obtain ⟨ZD, Zv, hq, hcc, hC⟩ := Kd.R_reads xW.out; cases hq; refine (cz.calls 20 _ _ L2 _ _ _ _ hC hcc HA.out).mono ?_; rintro e W6 ⟨v6, rfl, xQ, pK⟩; have pM := ak (Kd.R_lower xQ lp.out.size); have mA := ak (lp.out.trans (pK.mono lp.out.size)); have oG := ak (la.out.below pK); have pL := oG.out.cell 67 _ (ft _ _ _ _ _ HL.out); clear xQ pK lp la xX DF))
  have Ex := ak (HR.out.below mA.out)
  have HG := ak hg
  clear xW hg
  go_loopw [4, 6, 28] (fun s _ i W => ∃ k : Nat, k ≤ b.attrs.length ∧ i = .int .i64 k ∧ Aside0 (Kd.R (Kd.int .u8) 5 W w.heap.size (fun _ => True) s (eJ b k)) ∧ Aside0 (Below W6.heap.size W6 W)) (fun _ _ i _ => b.attrs.length - (intOf i).toNat)
  case atStart => exact ⟨0, by omega, rfl, pM, ⟨Below.refl _ _⟩⟩
  case round =>
   clear pM pL
   obtain ⟨k, hk, rfl, HO, HZ⟩ := hrel
   obtain ⟨W, rfl⟩ : ∃ W : World, W = wr := ⟨_, rfl⟩
   by_cases hkn : k < b.attrs.length
   ·have hkb : decide ((k : Int) < (b.attrs.length : Int)) = true := by simp; omega
    obtain ⟨ad, eA, ir, kp⟩ := l7 (Ex.out.below HZ.out).ar k (by omega) (by omega)
    cases eA
    rw [Int.toNat_natCast] at ir kp
    have p1 : ((k : Int) < (b.attrs.length : Int)) = True := eq_true (by omega)
    obtain ⟨a, ha⟩ : ∃ a : At, gh b.attrs k = a := ⟨_, rfl⟩
    have ha' : cI b.attrs (k : Int) = a := ha
    rw [ha'] at ir kp
    have hma := HP.out.may k hkn
    rw [ha] at hma
    unfold ep at hma
    rw [Bool.and_eq_true] at hma
    have jX := (e8 hma.1).2
    have pH := (e8 hma.2).2
    have hpl := mX HP.out k (by omega)
    obtain ⟨L3, BS⟩ : ∃ L3 : List Int, L3 = eJ b k ++ fN a.f0 := ⟨_, rfl⟩
    have F6 := ak (show jg.f 20 (eJ b k) a.f0 = some L3 by rw [BS, CM _ (by omega) a.f0 jX])
    have Eu := ak (show jg.f 20 L3 a.f1 = some (eJ b (k + 1)) by
     rw [CM _ (by rw [BS, List.length_append, gv]; omega) a.f1 pH, BS, p7 _ _ hkn, ha])
    clear ha ha' hma jX pH hpl BS
    obtain ⟨Ao, co, rfl⟩ := Kd.R_slice HO.out
    go_wp2_with (first
     | (refine au (some 6) rfl rfl 85 rfl [.string ⟨#[]⟩, .string ⟨#[]⟩] (fun _ => by kernel_rfl) ?_; intro ga W3 hga fO nT)
     | (refine aK rfl 85 (.tmp 6) (.tmp 31) rfl ga [.string a.f0, .string a.f1] rfl rfl 85 _ fO 2 (by kernel_rfl) rfl rfl (by intro u hu; simp at hu; rcases hu with rfl | rfl <;> rfl) ?_; intro W4 gK sb))
    have nt := ak (show aH W4.drew ga [.string a.f0, .string a.f1] 85 from gK)
    have hbW : Below W.heap.size W W4.drew := br (nT.grown sb nT.size (fun q hq => by cases hq; exact hga))
    have nr := ak (bg HZ.out hbW)
    have xX := ak (Kd.R_below HO.out hbW)
    have Ew := ak (show w.heap.size ≤ W4.drew.heap.size from Nat.le_trans mA.out.size nr.out.size)
    clear fO gK hga nT sb hbW ir kp HO HZ
    refine dd (n := 8) (S := fun w' => w'.cell? ⟨ga, 0, none⟩ = some (.string a.f0) ∧ w'.cell? ⟨ga, 1, none⟩ = some (.string a.f1)) (ds := []) #[false, false, false, false, false, false, false, false] (by kernel_rfl) rfl rfl ⟨nt.out.cell 0 _ rfl, nt.out.cell 1 _ rfl⟩ (fun hHeld => ?_); refine bQ sP.tab9 sP.bits9 (fun ae bA => ?_)
    refine pu 0 ae.out ?_
    refine pu 1 ae.out ?_
    refine tk 2 ae.out bA.out hHeld ?_ (hv := by intro w' aZ; obtain ⟨s0, s1⟩ := aZ; go_simp; with_reducible rfl)
    refine pu 4 ae.out ?_
    refine tk 5 ae.out bA.out hHeld ?_ (hv := by intro w' aZ; obtain ⟨s0, s1⟩ := aZ; go_simp; with_reducible rfl)
    refine on 3 ae.out (fun K hK => ?_)
    obtain ⟨Ao', co', hq, hcc, hC⟩ := Kd.R_reads xX.out; cases hq
    refine gs Try.func67 #[.slice Ao (eJ b k).length co, .string a.f0] (jg.calls 20 _ _ (eJ b k) _ _ _ hC hcc F6.out) ?_
    rintro e V3 ⟨v3, rfl, O5, gB⟩
    refine ⟨_, rfl, ?_⟩
    have X9 := ak (bg nr.out gB); have xW := ak (Kd.R_lower O5 Ew.out); have Gi := ak (nt.out.below gB); have Yc := ak (Nat.le_trans Ew.out gB.size); obtain ⟨A3, c3, WW, TF, XL⟩ := Kd.R_reads O5; subst WW; clear O5 gB
    refine kn hK ⟨Gi.out.cell 0 _ rfl, Gi.out.cell 1 _ rfl⟩ (fun hHeld => ?_)
    clear hK K
    refine on 6 ae.out (fun K hK => ?_)
    refine gs Try.func67 #[.slice A3 L3.length c3, .string a.f1] (jg.calls 20 _ _ L3 _ _ _ XL TF Eu.out) ?_
    rintro e V6 ⟨v6, rfl, xQ, pK⟩
    refine ⟨_, rfl, ?_⟩
    have X8 := ak (bg X9.out pK); have pM := ak (Kd.R_lower xQ Yc.out); have AI := ak (Gi.out.below pK); clear pK
    refine kn hK ⟨AI.out.cell 0 _ rfl, AI.out.cell 1 _ rfl⟩ (fun hHeld => ?_)
    clear hK K
    refine pu 7 ae.out ?_
    refine dn ae.out ?_
    go_wp2
    go_roundw
    case rel => exact ⟨k + 1, by omega, by go_num, pM, X8⟩
    case measure => simp [intOf]; omega
   ·obtain rfl : k = b.attrs.length := by omega
    have hkb : decide ((b.attrs.length : Int) < (b.attrs.length : Int)) = false := by simp
    have HXW := ak (oG.out.below HZ.out)
    have HBW := ak (mA.out.trans (HZ.out.mono mA.out.size))
    have HRW := ak (Ex.out.below HZ.out)
    have wO := HXW.out.cell 66 _ (fI _ _ _ _ _ HL.out)
    obtain ⟨Ao, co, rfl⟩ := Kd.R_slice HO.out
    have hCs := Of HXW.out HL.out
    have HPL := ak (mX HP.out b.attrs.length (Nat.le_refl _))
    have HCS := ak hCs
    clear hCs
    go_wp2_with (first
     | ((with_reducible refine bG (b := .append) (xs := #[.tmp 40, .tmp 42]) rfl ?_); at_builtin; refine Kd.R_append_row (Value.int .u8) (0 : Int) (w0 := w) w.heap.size rfl (.tmp 40) (.tmp 42) 48 5 (.int .u8 0) 1 rfl Try.underlying48 ja rfl (by decide) _ (eJ b b.attrs.length) b.slots (some ⟨g, 2, none⟩) 64 64 (fun _ => True) rfl rfl (fun _ _ => trivial) HO.out HCS.out HBW.out HBW.out.size (by have := HPL.out; have := HAL.out; omega) ?_; intro v7 w7 pJ xR kT yl; rw [← H4.out] at pJ; have su := ak (HXW.out.grown kT (HXW.out.ne_row HO.out (by decide))); have wY := ak pJ; have pN := ak xR; obtain ⟨A7, c7, rfl⟩ := Kd.R_slice pJ; have Pu := su.out.cell 66 _ (fI _ _ _ _ _ HL.out); clear pJ xR kT yl wO HXW HBW HRW HCS)
     | (go_at_call 66; obtain ⟨ZC, Zu, hq, hcc, hC⟩ := Kd.R_reads wY.out; cases hq; refine (cz.calls 20 _ _ L4 _ _ _ _ hC hcc HFP.out).mono ?_; rintro e W8 ⟨v8, rfl, nm, ll⟩; have zH := ak (Kd.R_lower nm pN.out.size); have qy := ak (pN.out.trans (ll.mono pN.out.size)); have oF := ak (su.out.below ll); obtain ⟨A8, c8, rfl⟩ := Kd.R_slice nm; have Rf := oF.out.cell 66 _ (fI _ _ _ _ _ HL.out); clear nm ll su Pu)
     | ((with_reducible refine bG (b := .append) (xs := #[.tmp 50, .tmp 52]) rfl ?_); at_builtin; refine Kd.R_append_row (Value.int .u8) (0 : Int) (w0 := w) w.heap.size rfl (.tmp 50) (.tmp 52) 48 5 (.int .u8 0) 1 rfl Try.underlying48 ja rfl (by decide) _ L5 b.free A b.free.length c (fun _ => True) rfl rfl (fun _ _ => trivial) zH.out ((HR.out.below qy.out).fr) qy.out qy.out.size (by have := HLS.out; omega) ?_; intro v9 w9 eG II yS Ke; rw [← H6.out] at eG; have EF := ak II; obtain ⟨A9, c9, kR, TD, IL⟩ := Kd.R_reads eG; subst kR; have hst := Kd.C_string (P := Try.prog) (src := 48) (dst := 9) (c := c9) Try.underlying48 Try.underlying5 Try.underlying9 IL; clear eG II yS Ke Rf oF zH wY IL))
    go_ret2
    exact ⟨by simp only [HI.out]; rfl, EF.out⟩
end Go.Proofs.Ytemhalnhbgkbcaa.V
end

section
namespace Go.Proofs.Ytemhalnhbgkbcaa.V
theorem sQ (b : Bk) : (eJ b 0).length = 7 + b.aff.size := by
 simp [eJ, qv, gv]
 omega
theorem sR (b : Bk) (k : Nat) (h : k < b.attrs.length) : (eJ b (k + 1)).length = (eJ b k).length + ((gh b.attrs k).f0.size + 1) + ((gh b.attrs k).f1.size + 1) := by
 rw [p7 _ _ h, List.length_append, List.length_append, gv, gv]
theorem BL (b : Bk) (hl : b.slots.length = 64) : (gW b).length = (eJ b b.attrs.length).length + 65 + b.free.length := by
 simp [gW]
 omega
set_option maxHeartbeats 8000000 in
set_option maxRecDepth 100000 in
theorem Il (b : Bk) (hk : BkOk b) (v : Value) (w : World) (h : iz w v b) :
  Calls Try.prog 37 #[v] w fun e w' => e = .returned (.int .i64 (if dC b = true then ((gW b).length : Int) else 0)) ∧ Below w.heap.size w w' := by
 obtain ⟨A, c, A', c', rfl, hr⟩ := h
 have HL := ak hr.l64
 have HR := ak hr
 have HK := ak hk
 have tW := ak (ah b.addr b.aff b.slots (.slice A b.free.length c) (.slice A' b.attrs.length c') hr.l64)
 clear hr
 cases hrt : dC b with
 | false =>
  have HRT := ak hrt
  clear hrt hk
  go_enter Try.func37, Try.ntmps37
  go_wp2_with (first
   | (refine aD rfl 57 (.tmp 0) rfl _ rfl ?_; intro g W1 hg hbx bq; have HX := ak hbx; have HB := ak bq; clear hbx bq hg)
   | (refine az rfl 57 (.tmp 1) rfl g rfl _ _ _ HX.out Try.underlying57 rfl 68 (by kernel_rfl) tW.out ?_)
   | (go_at_call 48; refine (ee b HK.out _ _ ⟨A, c, A', c', rfl, HR.out.below HB.out⟩).mono ?_; rintro e W2 ⟨rfl, dD⟩; rw [HRT.out]; have gl := ak (HB.out.trans (dD.mono HB.out.size)); clear dD))
  go_ret
  exact ⟨rfl, gl.out⟩
 | true =>
  have HRT := ak hrt
  have hp := im hrt
  have HP := ak hp
  have hsz := lH hp.owner
  have hfl := hp.free_len HL.out
  have hal := hp.na
  have HIL := ak (BL b HL.out)
  have HZL := ak (sQ b)
  clear hrt hp hk
  go_enter Try.func37, Try.ntmps37
  go_wp2_with (first
   | (refine aD rfl 57 (.tmp 0) rfl _ rfl ?_; intro g W1 hg hbx bq; have HX := ak hbx; have HB := ak bq; clear hbx bq)
   | (refine az rfl 57 (.tmp 1) rfl g rfl _ _ _ HX.out Try.underlying57 rfl 68 (by kernel_rfl) tW.out ?_)
   | (go_at_call 48; refine (ee b HK.out _ _ ⟨A, c, A', c', rfl, HR.out.below HB.out⟩).mono ?_; rintro e W2 ⟨rfl, dD⟩; rw [HRT.out]; have gl := ak (HB.out.trans (dD.mono HB.out.size)); have fv := ak (HX.out.below dD); have qL := ak (HR.out.below gl.out); have h1 := fv.out.cell 1 _ rfl; have wO := fv.out.cell 66 _ (fI _ _ _ _ _ HL.out); have pL := fv.out.cell 67 _ (ft _ _ _ _ _ HL.out); clear dD HX HB))
  clear h1 wO pL
  go_loopw [3, 5, 20] (fun s _ i W => ∃ (k m : Nat), k ≤ b.attrs.length ∧ m ≤ 9000 ∧ i = .int .i64 k ∧ s = .int .i64 m ∧ Aside0 (m = (eJ b k).length + 65 + b.free.length) ∧ Aside0 (Below W2.heap.size W2 W)) (fun _ _ i _ => b.attrs.length - (intOf i).toNat)
  case atStart => exact ⟨0, 72 + b.aff.size + b.free.length, by omega, by omega, rfl, by first | rfl | (congr 1; omega) | (simp; omega), ⟨by rw [HZL.out]; omega⟩, ⟨Below.refl _ _⟩⟩
  case round =>
   obtain ⟨k, m, hk, hm, rfl, rfl, HM, HZ⟩ := hrel
   obtain ⟨W, rfl⟩ : ∃ W : World, W = wr := ⟨_, rfl⟩
   by_cases hkn : k < b.attrs.length
   ·have hkb : decide ((k : Int) < (b.attrs.length : Int)) = true := by simp; omega
    obtain ⟨ad, eA, ir, kp⟩ := l7 (qL.out.below HZ.out).ar k (by omega) (by omega)
    cases eA
    rw [Int.toNat_natCast] at ir kp
    have p1 : ((k : Int) < (b.attrs.length : Int)) = True := eq_true (by omega)
    have hsl := sR b k hkn
    have hma := HP.out.may k hkn
    have hpl := mX HP.out (k + 1) (by omega)
    obtain ⟨a, ha⟩ : ∃ a : At, gh b.attrs k = a := ⟨_, rfl⟩
    have ha' : cI b.attrs (k : Int) = a := ha
    rw [ha'] at ir kp
    rw [ha] at hma hsl
    unfold ep at hma
    rw [Bool.and_eq_true] at hma
    have jX := (e8 hma.1).2
    have pH := (e8 hma.2).2
    have HSL := ak hsl
    have HPL := ak hpl
    clear ha ha' hma hsl hpl
    go_wp2_with (first
     | (refine au (some 5) rfl rfl 85 rfl [.string ⟨#[]⟩, .string ⟨#[]⟩] (fun _ => by kernel_rfl) ?_; intro ga W3 hga fO nT)
     | (refine aK rfl 85 (.tmp 5) (.tmp 23) rfl ga [.string a.f0, .string a.f1] rfl rfl 85 _ fO 2 (by kernel_rfl) rfl rfl (by intro u hu; simp at hu; rcases hu with rfl | rfl <;> rfl) ?_; intro W4 gK sb; have Iq := gK.cell 0 _ rfl; have BN := gK.cell 1 _ rfl; have nr := ak (bg HZ.out (nT.grown sb nT.size (fun q hq => by cases hq; exact hga))); clear fO gK hga nT sb ir kp))
    go_roundw
    case rel => exact ⟨k + 1, m + (2 + a.f0.size + a.f1.size), by omega, by have := HM.out; have := HSL.out; have := HPL.out; omega, by go_num, by first | rfl | go_num | (congr 1; omega) | (simp; omega), ⟨by have := HM.out; have := HSL.out; omega⟩, nr⟩
    case measure => simp [intOf]; omega
   ·obtain rfl : k = b.attrs.length := by omega
    have hkb : decide ((b.attrs.length : Int) < (b.attrs.length : Int)) = false := by simp
    go_wp2
    go_ret
    refine ⟨?_, gl.out.trans (HZ.out.mono gl.out.size)⟩
    have := HIL.out
    have := HM.out
    show Ending.returned (Value.int .i64 (m : Int)) = Ending.returned (Value.int .i64 ((gW b).length : Int))
    rw [show m = (gW b).length by omega]
end Go.Proofs.Ytemhalnhbgkbcaa.V
end

section
namespace Go.Proofs.Ytemhalnhbgkbcaa.V
theorem JS (xs ys : List Int) (h : xs.Nodup) (hs : ∀ x ∈ xs, x ∈ ys) : xs.length ≤ ys.length := h.length_le_of_subset hs
theorem E5 (s n : Nat) : (kA s n).Nodup := by
 unfold kA List.Nodup
 rw [List.pairwise_map]
 exact (List.Pairwise.filter _ List.nodup_range).imp (fun {a b} h e => h (by omega))
theorem ME (l : List Int) : (iH (gp l)).length ≤ (l.filter (fun x => decide (1 ≤ x))).length := by
 have h : (iH (gp l)).length ≤ ((l.filter (fun x => decide (1 ≤ x))).map (fun s => s - 1)).length := by
  refine JS _ _ (E5 _ 64) (fun x hx => ?_)
  obtain ⟨i, rfl, hi, ht⟩ := Ch _ _ x hx
  unfold gp at ht
  rw [p6 _ i hi, decide_eq_true_eq, List.mem_map] at ht
  obtain ⟨s, hs, he⟩ := ht
  exact List.mem_map.2 ⟨s, List.mem_filter.2 ⟨hs, by simp; omega⟩, he⟩
 simpa using h
theorem Jy (l : List Int) (h : fV l) : (l.filter (fun x => decide (1 ≤ x))).length + l.countP (fun x => x == 0) = l.length := by
 induction l with
 | nil => rfl
 | cons x l ih =>
  have h1 := ih (fun y hy => h y (by simp [hy]))
  have h2 := h x (by simp)
  by_cases hx : x = 0
  ·subst hx
   simp only [List.filter_cons, List.countP_cons, List.length_cons]
   simp
   omega
  ·have h3 : 1 ≤ x := by omega
   simp only [List.filter_cons, List.countP_cons, List.length_cons]
   simp [hx, h3]
   omega
theorem RightP.sum_le {b : Bk} (h : RightP b) (hk : BkOk b) (hl : b.slots.length = 64) : b.attrs.length + b.free.length ≤ 64 := by
 have h1 := ME b.slots
 have h2 := Jy b.slots hk.s8
 rw [h.used] at h1
 rw [h.zc, hl] at h2
 omega
theorem Im {b : Bk} (h : RightP b) : ∀ k, k ≤ b.attrs.length → 7 + 4 * k ≤ (eJ b k).length ∧ (eJ b k).length ≤ 7 + b.aff.size + 130 * k := by
 intro k
 induction k with
 | zero =>
  intro _
  rw [sQ]
  omega
 | succ k ih =>
  intro hk
  obtain ⟨h1, h2⟩ := ih (by omega)
  have hm := h.may k (by omega)
  unfold ep at hm
  rw [Bool.and_eq_true] at hm
  have s1 := e8 hm.1
  have s2 := e8 hm.2
  rw [sR _ _ (by omega)]
  omega
theorem JY {b : Bk} (h : RightP b) (hk : BkOk b) (hl : b.slots.length = 64) : 76 ≤ (gW b).length ∧ (gW b).length ≤ 8456 := by
 obtain ⟨h1, h2⟩ := Im h b.attrs.length (Nat.le_refl _)
 have h3 := h.sum_le hk hl
 have h4 := lH h.owner
 rw [BL b hl]
 refine ⟨?_, by omega⟩
 rcases Nat.eq_zero_or_pos b.attrs.length with h0 | h0
 ·have : b.free.length = 64 := by
   rw [← h.zc, ← hl]
   rw [List.countP_eq_length]
   intro s hs
   have := h.sa s hs
   have := (hk.s8 s hs).1
   simp
   omega
  omega
 ·omega
theorem strOfNums_size (l : List Int) : (strOfNums l).size = l.length := by
 simp [strOfNums, ByteArray.size]
def ot : Bk := qQ 0 ⟨#[]⟩
theorem wG : dC ot = true := by kernel_rfl
theorem FA : (gW ot).length = 136 := by kernel_rfl
theorem Ig : BkOk ot := ⟨by decide, by decide, by intro x hx; simp [ot, qQ] at hx; omega, by intro x hx; simp only [ot, qQ, lq, List.mem_map, List.mem_range] at hx; obtain ⟨i, hi, rfl⟩ := hx; omega⟩
end Go.Proofs.Ytemhalnhbgkbcaa.V
end

section
namespace Go.Proofs.Ytemhalnhbgkbcaa.V
structure RelOk (b : Bk) (s : Bk × List Int) (n : Nat) : Prop where
 addr : s.1.addr = b.addr
 aff : s.1.aff = b.aff
 attrs : s.1.attrs = b.attrs
 l64 : s.1.slots.length = 64
 s8 : fV s.1.slots
 f8 : fV s.1.free
 le : ∀ x ∈ s.1.slots, x ≤ (b.attrs.length : Int)
 fl : s.1.free.length ≤ b.free.length + n
 ol : s.2.length ≤ n
theorem wN {b : Bk} {x : Int} (h : jQ b x = true) : 0 ≤ x - b.addr ∧ x - b.addr < 64 ∧ b9 x = b.addr ∧ (b.slots.getD (x - b.addr).toNat 0 != 0) = true := by
 unfold jQ at h
 rw [Bool.and_eq_true, decide_eq_true_eq] at h
 obtain ⟨h1, h2⟩ := h
 refine ⟨?_, ?_, h1, h2⟩ <;> (unfold b9 at h1; omega)
theorem yL {l : List Int} {i : Nat} {x y : Int} (h : y ∈ l.set i x) : y ∈ l ∨ y = x := List.mem_or_eq_of_mem_set h
theorem MK {b : Bk} {s : Bk × List Int} {n : Nat} (h : RelOk b s n) (x : Int) : RelOk b (relF s x) (n + 1) := by
 unfold relF
 by_cases hh : jQ s.1 x = true
 ·rw [if_pos hh]
  obtain ⟨h1, h2, _, _⟩ := wN hh
  refine ⟨h.addr, h.aff, h.attrs, by simpa using h.l64, fun y hy => ?_, fun y hy => ?_, fun y hy => ?_, ?_, ?_⟩
  ·rcases yL hy with hy | rfl
   ·exact h.s8 y hy
   ·omega
  ·rcases List.mem_append.1 hy with hy | hy
   ·exact h.f8 y hy
   ·rw [List.mem_singleton] at hy
    subst hy
    omega
  ·rcases yL hy with hy | rfl
   ·exact h.le y hy
   ·omega
  ·show (s.1.free ++ [x - s.1.addr]).length ≤ _
   have := h.fl
   rw [List.length_append, List.length_singleton]
   omega
  ·show (s.2 ++ [x]).length ≤ _
   have := h.ol
   rw [List.length_append, List.length_singleton]
   omega
 ·rw [if_neg hh]
  exact ⟨h.addr, h.aff, h.attrs, h.l64, h.s8, h.f8, h.le, by have := h.fl; omega, by have := h.ol; omega⟩
theorem uG {b : Bk} (hk : BkOk b) (hp : RightP b) (hl : b.slots.length = 64) (l : List Int) : ∀ k, k ≤ l.length → RelOk b (relL b (l.take k)) k := by
 intro k
 induction k with
 | zero => intro _; exact ⟨rfl, rfl, rfl, hl, hk.s8, hk.f8, hp.sa, Nat.le_refl _, Nat.le_refl _⟩
 | succ k ih =>
  intro h
  rw [List.take_succ_eq_append_getElem (by omega), BA]
  exact MK (ih (by omega)) _
theorem Bz (b : Bk) (l : List Int) (k : Nat) (h : k < l.length) (x : Int) (hx : l[k] = x) : relL b (l.take (k + 1)) = relF (relL b (l.take k)) x := by
 rw [List.take_succ_eq_append_getElem h, BA, hx]
end Go.Proofs.Ytemhalnhbgkbcaa.V
end

section
namespace Go.Proofs.Ytemhalnhbgkbcaa.V
theorem sq {α : Type} {d : Kd α} {e base n c : Nat} {ok : Nat → Prop} {W : World} {A : Option Addr} {xs : List α} (h : d.R e W base ok (.slice A n c) xs) (hn : 0 < xs.length) : ∃ g, A = some ⟨g, 0, none⟩ := by
 have hl := (Kd.R_reads' h).1
 obtain ⟨_, inner, ho, _⟩ := h
 rcases ho.2 with ⟨hv, h0⟩ | ⟨g', cap', cur, hv, _⟩
 ·injection hv with h1 h2 h3
  omega
 ·injection hv with h1 h2 h3
  exact ⟨g', h1⟩
theorem FW {e base n cap g : Nat} {ok : Nat → Prop} : ∀ (m o : Nat) (W : World) (xs : List Int), o + m ≤ n → Kd.R (Kd.int .u8) e W base ok (.slice (some ⟨g, 0, none⟩) n cap) xs →
  ∃ ys, ys.length = xs.length ∧ ys.take o = xs.take o ∧ Kd.R (Kd.int .u8) e (W.setCells g o (List.replicate m (.int .u8 0))) base ok (.slice (some ⟨g, 0, none⟩) n cap) ys ∧ W.grownBy (W.setCells g o (List.replicate m (.int .u8 0))) (some g)
 | 0, o, W, xs, _, h => ⟨xs, rfl, rfl, h, ⟨rfl, rfl, rfl, Nat.le_refl _, fun _ _ _ => rfl⟩⟩
 | m + 1, o, W, xs, ho, h => by
  have hn := (Kd.R_reads' h).1
  obtain ⟨ce, hcl, _, hcc, _⟩ := Kd.R_elem h 0 (o : Int) (by omega) (by omega)
  obtain ⟨u, rfl⟩ := List.length_eq_one_iff.1 (show ce.length = 1 from hcl)
  have hsg := Kd.R_seg h (o : Int) (by omega) (by omega) (seg := [.int .u8 0]) (j := 0) (x' := (0 : Int)) (okp := fun _ => False) hcl hcc (Nat.le_refl 1) rfl (fun _ h => h.elim)
  have e1 : ((o : Int).toNat * (Kd.int .u8).sz + 0) = o := by show (o : Int).toNat * 1 + 0 = o; omega
  rw [e1] at hsg
  obtain ⟨ys, hl, ht, hr, hg⟩ := FW m (o + 1) _ _ (by omega) hsg.1
  refine ⟨ys, by rw [hl, List.length_set], ?_, hr, ?_⟩
  ·have h2 := congrArg (List.take o) ht
   rw [List.take_take, List.take_take, show min o (o + 1) = o by omega] at h2
   rw [h2, List.take_set_of_le (by omega)]
  ·exact ⟨hg.os.trans hsg.2.os, hg.tape.trans hsg.2.tape, hg.output.trans hsg.2.output, Nat.le_trans hsg.2.size hg.size, fun k hk hne => (hg.block k (Nat.lt_of_lt_of_le hk hsg.2.size) hne).trans (hsg.2.block k hk hne)⟩
theorem Ly {e base n cap g : Nat} {ok : Nat → Prop} {W : World} {xs : List Int} (h : Kd.R (Kd.int .u8) e W base ok (.slice (some ⟨g, 0, none⟩) n cap) xs) (j : Nat) (hj : j < n) : (∃ u, W.cell? ⟨g, j, none⟩ = some u) ∧ W.frozen? ⟨g, j, none⟩ = false := by
 obtain ⟨ce, hcl, _, hcc, hcf⟩ := Kd.R_elem h 0 (j : Int) (by omega) (by omega)
 obtain ⟨u, rfl⟩ := List.length_eq_one_iff.1 (show ce.length = 1 from hcl)
 have e1 : ((j : Int).toNat * (Kd.int .u8).sz + 0) = j := by show (j : Int).toNat * 1 + 0 = j; omega
 have h1 := hcc 0 u rfl
 have h2 := hcf 0
 rw [e1] at h1 h2
 exact ⟨⟨u, h1⟩, h2⟩
theorem Og (w : World) : (zeroValue 5).run Try.prog w = .ok (.int .u8 0) w := by kernel_rfl
def gg (i : Int) (x : Int) : Bool := !(x == i)
theorem Ij (xs L : List Int) (i : Int) (j ii : Nat) (hj : j < xs.length) (hl : L.length = xs.length) (hij : ii < j) (h1 : L.take ii = (xs.take j).filter (gg i)) (h2 : L.drop j = xs.drop j) (hk : (xs[j] == i) = false) :
  (L.set ii xs[j]).length = xs.length ∧ (L.set ii xs[j]).take (ii + 1) = (xs.take (j + 1)).filter (gg i) ∧ (L.set ii xs[j]).drop (j + 1) = xs.drop (j + 1) := by
 refine ⟨by simpa using hl, ?_, ?_⟩
 ·rw [List.take_add_one, List.take_set_of_le (by omega), List.getElem?_set_self (by omega), h1, List.take_succ_eq_append_getElem hj, List.filter_append]
  congr 1
  simp [gg, hk]
 ·rw [List.drop_set_of_lt (by omega)]
  have := congrArg (List.drop 1) h2
  rwa [List.drop_drop, List.drop_drop] at this
theorem IN (xs L : List Int) (i : Int) (j ii : Nat) (hj : j < xs.length) (h1 : L.take ii = (xs.take j).filter (gg i)) (h2 : L.drop j = xs.drop j) (hk : (xs[j] == i) = true) :
  L.take ii = (xs.take (j + 1)).filter (gg i) ∧ L.drop (j + 1) = xs.drop (j + 1) := by
 refine ⟨?_, ?_⟩
 ·rw [h1, List.take_succ_eq_append_getElem hj, List.filter_append]
  congr 1
  simp [gg, hk]
 ·have := congrArg (List.drop 1) h2
  rwa [List.drop_drop, List.drop_drop] at this
theorem GK (xs : List Int) (i : Int) (k : Nat) (hk : k < xs.length) (h : (xs[k] == i) = true) (hn : ∀ j (hj : j < k), (xs[j] == i) = false) : xs.take k = (xs.take (k + 1)).filter (gg i) := by
 rw [List.take_add_one, List.getElem?_eq_getElem hk, List.filter_append]
 have e : (xs.take k).filter (gg i) = xs.take k := by
  rw [List.filter_eq_self]
  intro x hx
  obtain ⟨j, hj, rfl⟩ := List.mem_iff_getElem.1 hx
  rw [List.length_take] at hj
  have := hn j (by omega)
  rw [List.getElem_take]
  simp [gg, this]
 rw [e]
 simp [gg, h]
theorem Kp (xs L : List Int) (j : Nat) (hj : j < xs.length) (hl : L.length = xs.length) (h : L.drop j = xs.drop j) : rd L j = xs[j] := by
 have h1 := congrArg (fun l => l[0]?) h
 simp only [List.getElem?_drop, Nat.add_zero] at h1
 rw [List.getElem?_eq_getElem (by omega), List.getElem?_eq_getElem hj] at h1
 simp only [rd, List.getD, Int.toNat_natCast]
 rw [List.getElem?_eq_getElem (by omega)]
 exact Option.some.inj h1
set_option maxHeartbeats 8000000 in
set_option maxRecDepth 100000 in
theorem Bj (xs : List Int) (hu : fV xs) (hl : xs.length ≤ 1000) (A : Option Addr) (c : Nat) (i : Int) (g b1 : Nat) (w : World) (hR : Kd.R (Kd.int .u8) 5 w b1 (fun _ => True) (.slice A xs.length c) xs) (hX : aH w g [.int .i64 i] 3) (bq : b1 ≤ w.heap.size) :
  Calls Try.prog 93 #[.slice A xs.length c, PJ g] w fun e w' => ∃ v, e = .returned v ∧ Kd.R (Kd.int .u8) 5 w' b1 (fun _ => True) v (xs.filter (gg i)) ∧ Below b1 w w' ∧ g5 (fun k => some k = (Value.slice A xs.length c).ownBlock) w w' := by
 have hC := (Kd.R_reads' hR).2.2
 have hcap := (Kd.R_reads' hR).2.1
 have HR := ak hR
 have HX := ak hX
 have HU := ak hu
 have bP := ak bq
 have HIF := ak (Ck xs hu hl A c i g w hC hX)
 clear hX hu bq hC
 cases hi : uh xs i with
 | none =>
  rw [hi] at HIF
  have HF := ak (show xs.filter (gg i) = xs from List.filter_eq_self.2 (fun x hx => by simp [gg, Ip hi x hx]))
  clear hi hR
  go_enter Try.func93, Try.ntmps93
  go_wp2_with (go_at_call 111; refine (HIF.out).mono ?_; rintro e W1 ⟨rfl, bq⟩; have HB := ak bq; clear bq; unfold ug)
  go_ret
  exact ⟨_, rfl, by rw [HF.out]; exact Kd.R_below HR.out HB.out, HB.out.mono bP.out, g5.of_below HB.out⟩
 | some k0 =>
  rw [hi] at HIF
  obtain ⟨Pa, SU, lT⟩ := Io hi
  obtain ⟨gr, rfl⟩ := sq hR (Nat.lt_of_le_of_lt (Nat.zero_le _) Pa)
  have H1 := ak (GK xs i k0 Pa SU lT)
  have sg : ((k0 : Int) == (-1 : Int)) = false := by rw [beq_eq_false_iff_ne]; omega
  have HGR := ak (Kd.R_base hR gr rfl)
  clear hi hR SU lT
  go_enter Try.func93, Try.ntmps93
  go_wp2_with (go_at_call 111; refine (HIF.out).mono ?_; rintro e W1 ⟨rfl, bq⟩; have HB := ak bq; clear bq; unfold ug)
  go_loopw [5, 6, 7] (fun t j _ W => ∃ (jj ii : Nat) (L : List Int), jj ≤ xs.length ∧ ii < jj ∧ t = .int .i64 ii ∧ j = .int .i64 jj ∧ Aside0 (L.length = xs.length) ∧ Aside0 (L.take ii = (xs.take jj).filter (gg i)) ∧ Aside0 (L.drop jj = xs.drop jj) ∧ Aside0 (Kd.R (Kd.int .u8) 5 W b1 (fun _ => True) (.slice (some ⟨gr, 0, none⟩) xs.length c) L) ∧ Aside0 (aH W g [.int .i64 i] 3) ∧ Aside0 (Below b1 w W) ∧ Aside0 (g5 (fun k => some k = some gr) w W)) (fun _ j _ _ => xs.length - (intOf j).toNat)
  case atStart => exact ⟨k0 + 1, k0, xs, by omega, by omega, rfl, by go_num, ⟨rfl⟩, H1, ⟨rfl⟩, ⟨Kd.R_below HR.out HB.out⟩, ⟨HX.out.below HB.out⟩, ⟨HB.out.mono bP.out⟩, ⟨g5.of_below HB.out⟩⟩
  case round =>
   clear HB H1 sg Pa
   obtain ⟨jj, ii, L, hjj, hij, rfl, rfl, HL, HT, HD, HRL, HXL, HBL, HKL⟩ := hrel
   obtain ⟨W, rfl⟩ : ∃ W : World, W = wr := ⟨_, rfl⟩
   by_cases hlt : jj < xs.length
   ·have hkb : decide ((jj : Int) < (xs.length : Int)) = true := by simp; omega
    have hLl := HL.out
    obtain ⟨ad, eA, hx⟩ := Kd.at_int (Kd.R_reads' HRL.out).2.2 jj (by omega) (by omega)
    clear hLl
    cases eA
    rw [Int.toNat_natCast, add_plain] at hx
    have p1 : ((jj : Int) < (xs.length : Int)) = True := eq_true (by omega)
    have hrd := Kp xs L jj hlt HL.out HD.out
    have h0 : 0 ≤ xs[jj] ∧ xs[jj] < 256 := HU.out _ (List.getElem_mem hlt)
    obtain ⟨x, hxx⟩ : ∃ x, x = xs[jj] := ⟨_, rfl⟩
    rw [← hxx] at hrd h0
    rw [hrd] at hx
    have HXK := ak hxx
    clear hrd hxx
    cases hq : (x == i) with
    | true =>
     have HQ := ak hq
     clear hq
     have HG := ak (IN xs L i jj ii hlt HT.out HD.out (by rw [← HXK.out]; exact HQ.out))
     go_wp2_with (go_at_call 94; refine (Cw x i h0.1 h0.2 g _ HXL.out).mono ?_; rintro e W2 ⟨rfl, dD⟩; rw [HQ.out]; have qL := ak (Kd.R_below HRL.out dD); have fv := ak (HXL.out.below dD); have gl := ak (HBL.out.trans (dD.mono (lb bP HBL))); have xb := ak (g5.trans HKL.out (g5.of_below dD)); clear dD)
     go_roundw
     case rel => exact ⟨jj + 1, ii, L, by omega, by omega, rfl, by go_num, HL, ⟨HG.out.1⟩, ⟨HG.out.2⟩, qL, fv, gl, xb⟩
     case measure => simp [intOf]; omega
    | false =>
     have HQ := ak hq
     clear hq
     have HG := ak (Ij xs L i jj ii hlt HL.out hij HT.out HD.out (by rw [← HXK.out]; exact HQ.out))
     rw [← HXK.out] at HG
     have hlast : (ii : Int) < (xs.length : Int) := by omega
     have e1 : ((ii : Int).toNat * (Kd.int .u8).sz + 0) = ii := by show (ii : Int).toNat * 1 + 0 = ii; omega
     have E1 := ak e1
     clear e1
     go_wp2_with (first
      | (go_at_call 94; refine (Cw x i h0.1 h0.2 g _ HXL.out).mono ?_; rintro e W2 ⟨rfl, dD⟩; rw [HQ.out]; have qL := ak (Kd.R_below HRL.out dD); have fv := ak (HXL.out.below dD); have gl := ak (HBL.out.trans (dD.mono (lb bP HBL))); have xb := ak (g5.trans HKL.out (g5.of_below dD)); obtain ⟨ce, hcl, XK, hcc, hcf⟩ := Kd.R_elem qL.out 0 (ii : Int) (by omega) hlast; obtain ⟨u, rfl⟩ := List.length_eq_one_iff.1 (show ce.length = 1 from hcl); have HCC := ak hcc; have HCL := ak hcl; have Li : W2.cell? ⟨gr, ii, none⟩ = some u := (by have h_ := hcc 0 u rfl; rwa [E1.out] at h_); have xP : W2.frozen? ⟨gr, ii, none⟩ = false := (by have h_ := hcf 0; rwa [E1.out] at h_); clear dD hx hcc hcl hcf XK))
     clear Li xP
     have hsg := Kd.R_seg qL.out (ii : Int) (by omega) hlast (seg := [.int .u8 x]) (j := 0) (x' := x) (okp := fun _ => False) HCL.out HCC.out (Nat.le_refl 1) rfl (fun _ h => h.elim)
     rw [E1.out, Int.toNat_natCast] at hsg
     have Ey := ak hsg.1
     have nM := hsg.2
     have kj := ak (fv.out.grown nM (fv.out.ne_row qL.out (by decide)))
     have Ye := ak (g5.trans xb.out (g5.of_grown nM (fun k hk => hk)))
     have fO := ak (gl.out.grown nM (lb bP gl) (by intro k hk; cases hk; exact HGR.out))
     clear hsg nM
     go_roundw
     case rel => exact ⟨jj + 1, ii + 1, L.set ii x, by omega, by omega, by go_num, by go_num, ⟨HG.out.1⟩, ⟨HG.out.2.1⟩, ⟨HG.out.2.2⟩, Ey, kj, fO, Ye⟩
     case measure => simp [intOf]; omega
   ·obtain rfl : jj = xs.length := by omega
    have hkb : decide ((xs.length : Int) < (xs.length : Int)) = false := by simp
    have hcl : ∀ ty, (Builtin.clear_ #[48] ty #[.slice (some ⟨gr, ii, none⟩) (xs.length - ii) (c - ii)]).run Try.prog W = .ok (.tuple #[]) (W.setCells gr ii (List.replicate (xs.length - ii) (.int .u8 0))) :=
     fun ty => Lib.run_clear_slice W 48 5 ty (.int .u8 0) Try.underlying48 Og rfl rfl gr ii _ _ (by omega) (fun j hj => by
      obtain ⟨⟨u, hu⟩, _⟩ := Ly HRL.out (ii + j) (by omega)
      rw [hu]
      rfl) (fun j hj => (Ly HRL.out (ii + j) (by omega)).2)
    have hcne : ¬ c = ii := by omega
    have HZ := ak (FW (xs.length - ii) ii W L (by omega) HRL.out)
    rw [List.take_of_length_le (Nat.le_refl xs.length)] at HT
    generalize Zn : W.setCells gr ii (List.replicate (xs.length - ii) (.int .u8 0)) = W2 at hcl HZ
    go_wp2
    go_ret
    obtain ⟨ys, hyl, hyt, hyr, hyg⟩ := HZ.out
    have hr := Kd.R_take hyr (m := ii) (by rw [hyl, HL.out]; omega)
    rw [hyt, HT.out] at hr
    exact ⟨_, rfl, hr, HBL.out.grown hyg (lb bP HBL) (by intro k hk; cases hk; exact HGR.out), g5.trans HKL.out (g5.of_grown hyg (fun k hk => hk))⟩
end Go.Proofs.Ytemhalnhbgkbcaa.V
end

section
namespace Go.Proofs.Ytemhalnhbgkbcaa.V
def xV (l : List At) : Prop := ∀ j, j < l.length → (l.take j).any (sameAt (gh l j)) = false
theorem pU {b : Bk} (hp : RightP b) (hk : BkOk b) (j : Nat) (h : j < b.free.length) : 0 ≤ rd b.free j ∧ rd b.free j < 64 ∧ rd b.free j ∉ b.free.take j ∧ b.slots.getD (rd b.free j).toNat 0 = 0 := by
 have h1 := hp.fr j h
 unfold jw at h1
 simp only [Bool.or_eq_false_iff, decide_eq_false_iff_not, bne_eq_false_iff_eq] at h1
 exact ⟨(j2 hk.f8 j).1, by omega, h1.2.1, h1.2.2⟩
theorem Fs (l : List Int) (k : Nat) (h : k < l.length) : rd l k = l[k] := by simp [rd, List.getD, h]
theorem IT {b : Bk} (hp : RightP b) (hk : BkOk b) (k : Nat) (h : k < b.free.length) : (b.free.drop k).filter (gg (rd b.free k)) = b.free.drop (k + 1) := by
 rw [List.drop_eq_getElem_cons h, List.filter_cons]
 have e := Fs b.free k h
 rw [e]
 have h0 : gg b.free[k] b.free[k] = false := by simp [gg]
 rw [h0, if_neg (by decide), List.filter_eq_self]
 intro x hx
 obtain ⟨i, hi, rfl⟩ := List.mem_iff_getElem.1 hx
 rw [List.length_drop] at hi
 have hm := (pU hp hk (k + 1 + i) (by omega)).2.2.1
 rw [Fs b.free (k + 1 + i) (by omega)] at hm
 rw [List.getElem_drop]
 have hne : b.free[k + 1 + i] ≠ b.free[k] := fun e2 => hm (by
  rw [e2]
  exact List.mem_take_iff_getElem.2 ⟨k, by omega, rfl⟩)
 simp [gg, hne]
theorem OL {l : List At} (h : xV l) (a : At) : xV (eu l a) := by
 unfold eu
 cases hi : gf l a with
 | some i => exact h
 | none =>
  show xV (l ++ [a])
  intro j hj
  rw [List.length_append, List.length_singleton] at hj
  rcases Nat.lt_or_ge j l.length with h1 | h1
  ·have e1 : (l ++ [a]).take j = l.take j := by rw [List.take_append_of_le_length (by omega)]
   have e2 : gh (l ++ [a]) j = gh l j := by
    rw [m2 _ _ (by simp; omega), m2 _ _ h1, List.getElem_append_left h1]
   rw [e1, e2]
   exact h j h1
  ·obtain rfl : j = l.length := by omega
   have e1 : (l ++ [a]).take l.length = l := by simp
   have e2 : gh (l ++ [a]) l.length = a := by
    rw [m2 _ _ (by simp)]
    simp
   rw [e1, e2]
   unfold gf at hi
   rw [List.findIdx?_eq_none_iff] at hi
   rw [List.any_eq_false]
   intro x hx
   simpa using hi x hx
theorem PU {b : Bk} (h : xV b.attrs) (k : Nat) (a : At) : xV (fq b k a).attrs := by
 show xV (if k = 0 then b.attrs else eu b.attrs a)
 split
 ·exact h
 ·exact OL h a
theorem I6 (b : Bk) (k : Nat) (a : At) : (fq b k a).slots.length = b.slots.length ∧ (fq b k a).free.length ≤ b.free.length ∧ (fq b k a).attrs.length ≤ b.attrs.length + 1 := by
 refine ⟨Cc _ _ _, ?_, ?_⟩
 ·show (b.free.drop k).length ≤ _
  rw [List.length_drop]
  omega
 ·show (if k = 0 then b.attrs else eu b.attrs a).length ≤ _
  split
  ·omega
  ·exact qZ _ _
theorem DJ {b : Bk} (hp : RightP b) (hk : BkOk b) (k : Nat) (h : k < b.free.length) (a : At) : fT (fq b k a) (rd b.free k).toNat a = fq b (k + 1) a := by
 have h0 := pU hp hk k h
 have hmid := qb b k a h
 have e : fq b (k + 1) a = ⟨b.addr, b.aff, (ec b (k + 1) a).slots, b.free.drop (k + 1), (ec b (k + 1) a).attrs⟩ := rfl
 rw [e, hmid, ← IT hp hk k h]
 unfold fT
 congr 1
 show (b.free.drop k).filter (gg ((rd b.free k).toNat : Int)) = _
 rw [Int.toNat_of_nonneg h0.1]
theorem KA (b : Bk) (a : At) : fq b 0 a = b := rfl
theorem Ep (b : Bk) (k : Nat) (a : At) (h : k < b.free.length) : 0 < (fq b k a).free.length ∧ rd (fq b k a).free 0 = rd b.free k := by
 constructor
 ·show 0 < (b.free.drop k).length
  rw [List.length_drop]
  omega
 ·show rd (b.free.drop k) 0 = _
  simp [rd, List.getD]
end Go.Proofs.Ytemhalnhbgkbcaa.V
end

section
namespace Go.Proofs.Ytemhalnhbgkbcaa.V
theorem AT (a : At) : ∀ u ∈ [Value.string (vc a).f0, .string (vc a).f1], u.oneCell' = true := by
 intro u hu
 simp only [List.mem_cons, List.not_mem_nil, or_false] at hu
 rcases hu with rfl | rfl <;> rfl
theorem BI (l : List Int) (i : Int) (k : Nat) (h : k < l.length) : (l.take (k + 1)).filter (gg i) = (l.take k).filter (gg i) ++ if (l[k] == i) = true then [] else [l[k]] := by
 rw [List.take_succ_eq_append_getElem h, List.filter_append]
 congr 1
 cases hq : (l[k] == i) <;> simp [gg, hq]
set_option maxHeartbeats 16000000 in
set_option maxRecDepth 100000 in
theorem DK (b : Bk) (hl : b.slots.length = 64) (hf : b.free.length ≤ 1000) (ha : b.attrs.length ≤ 100) (hnd : ∀ j, j < b.attrs.length → (b.attrs.take j).any (sameAt (gh b.attrs j)) = false) (i : Nat) (hi : i < 64) (a : At) (v : Value) (w : World) (h : ki w v b) :
  Calls Try.prog 106 #[v, .int .i64 i, .agg #[.string a.f0, .string a.f1]] w fun e w' => ∃ v', e = .returned v' ∧ eU w' w.heap.size v' (fT b i a) ∧ Below w.heap.size w w' := by
 obtain ⟨M, Jv, IY, Jw, I2, Jx, I4, rfl, hr⟩ := h
 have zN := ak hr.m
 have hml : M.length = b.attrs.length := by rw [hr.m, List.length_map]
 have HML := ak hml
 have HR := ak hr
 have HL := ak hl
 have HND := ak hnd
 have HFL := ak hf
 have Dn : M.length ≤ 100 := by omega
 have HCP := ak (fun w h => Cv b (by omega) (by omega) M (by omega) Jv IY Jw I2 Jx I4 w h)
 have ag := ak (Below.refl w.heap.size w)
 clear hr hl hnd hml hf
 go_enter Try.func106, Try.ntmps106
 go_wp2_with (first
  | (refine aD rfl 62 (.tmp 0) rfl _ rfl ?_; intro gX W1 J aa I; have cg := ge ag J; have ao := ak (ag.out.trans (I.mono ag.out.size)); have aj := ak (aa); clear J aa I ag)
  | (refine aD rfl 76 (.tmp 2) rfl _ rfl ?_; intro gA W2 J aa I; have ld := ge ao J; have eO := ne aj J; have ay := mv I ao; have aw := mv I aj; have cr := ak (aa); clear J aa I ao aj)
  | (refine au (some 6) rfl rfl 62 rfl dH (fun _ => by kernel_rfl) ?_; intro gZ W3 J aa I; have cb := ge ay J; have aG := ne aw J; have gD := ne cr J; have aE := mv I ay; have aC := mv I aw; have dm := mv I cr; have cd := ak (aa); clear J aa I ay aw cr)
  | ((with_reducible refine av (N := 13) rfl ?_); refine az rfl 62 (.tmp 3) rfl gX rfl _ _ _ aC.out Try.underlying62 rfl 5 (by kernel_rfl) rfl ?_)
  | (go_at_call 85; refine (HCP.out _ (HR.out.below aE.out)).mono ?_; rintro e W4 ⟨vs, vf, va, rfl, uY, dQ, eE, I⟩; obtain ⟨As, cs, rfl⟩ := Kd.R_slice uY; obtain ⟨Af, cf, rfl⟩ := Kd.R_slice dQ; obtain ⟨Aa, ca, rfl⟩ := Kd.R_slice eE; have HSZ := ak aE.out.size; have HGL := ak (show gA < W3.heap.size from dm.out.lt); have a8 := mv I aE; have aY := mv I aC; have dK := mv I dm; have bd := mv I cd; have cw := ak (uY); have cx := ak (dQ); have cR := ak (eE); clear uY dQ eE I aE aC dm cd)
  | (refine aK rfl 62 (.tmp 3) (.tmp 14) rfl gX (dj b.addr b.aff (.slice As b.slots.length cs) (.slice Af b.free.length cf) (.slice Aa M.length ca)) rfl rfl 62 _ aY.out 5 (by kernel_rfl) rfl rfl (dM _ _ rfl rfl rfl) ?_; intro W5 aa J; have bj := gb a8 cg J; have bc := ak (aa); have eZ := gx dK aY J; have bI := gm bd aG J; have cQ := gr cw aY J; have cj := gr cx aY J; have cH := gr cR aY J; have oR := aa.cell 4 _ rfl; clear aa J a8 aY dK bd cw cx cR))
 clear oR
 obtain ⟨b1, bq⟩ : ∃ b1, b1 = W3.heap.size := ⟨_, rfl⟩
 rw [← bq] at cQ cj cH HSZ HGL
 have bP := ak (show w.heap.size ≤ b1 from HSZ.out)
 clear bq HSZ
 go_loopw [7, 8, 9, 18] (fun q _ _ u W => ∃ k : Nat, k ≤ M.length ∧ u = .int .i64 k ∧ q = .int .i64 (ug (gf (b.attrs.take k) a)) ∧ Aside0 (aH W gX (dj b.addr b.aff (.slice As b.slots.length cs) (.slice Af b.free.length cf) (.slice Aa M.length ca)) 62) ∧ Aside0 (aH W gA [.string (vc a).f0, .string (vc a).f1] 76) ∧ Aside0 (aH W gZ dH 62) ∧ Aside0 (Kd.R (Kd.int .i64) 3 W b1 (fun k => some k ≠ (Value.slice Af b.free.length cf).ownBlock) (.slice As b.slots.length cs) b.slots) ∧ Aside0 (Kd.R (Kd.int .i64) 3 W b1 (fun k => some k ≠ (Value.slice As b.slots.length cs).ownBlock) (.slice Af b.free.length cf) b.free) ∧ Aside0 (Kd.R ib 76 W b1 (fun _ => True) (.slice Aa M.length ca) M) ∧ Aside0 (Below w.heap.size w W)) (fun _ _ _ u _ => M.length - (intOf u).toNat)
 case atStart => exact ⟨0, by omega, rfl, rfl, bc, eZ, bI, cQ, cj, cH, bj⟩
 case round =>
  clear bc eZ bI cQ cj cH bj
  obtain ⟨k, hk, rfl, rfl, aM, hH, bC, aV, bw, bS, ag⟩ := hrel
  obtain ⟨W, rfl⟩ : ∃ W : World, W = wr := ⟨_, rfl⟩
  by_cases hkn : k < M.length
  ·have hkb : decide ((k : Int) < (M.length : Int)) = true := by simp; omega
   obtain ⟨ad, eA, ir, kp⟩ := En (Kd.R_reads' bS.out).2.2 k (by omega) (by omega)
   cases eA
   rw [Int.toNat_natCast] at ir kp
   have p1 : ((k : Int) < (M.length : Int)) = True := eq_true (by omega)
   have hka : k < b.attrs.length := by have := HML.out; omega
   obtain ⟨x, hx⟩ : ∃ x : At, gh b.attrs k = x := ⟨_, rfl⟩
   have hx' : fz M (k : Int) = vc x := by
    rw [← hx, zN.out]
    show fz (b.attrs.map vc) (k : Int) = vc (cI b.attrs (k : Int))
    simp [fz, cI, List.getD, hka]
   rw [hx'] at ir kp
   obtain ⟨q, hq⟩ : ∃ q, q = ug (gf (b.attrs.take k) a) := ⟨_, rfl⟩
   rw [← hq]
   have hsd : sameAt x a = ((vc x).f0.toList == (vc a).f0.toList && (vc x).f1.toList == (vc a).f1.toList) := rfl
   cases e0 : ((vc x).f0.toList == (vc a).f0.toList) with
   | true =>
    cases e1 : ((vc x).f1.toList == (vc a).f1.toList) with
    | true =>
     rw [e0, e1] at hsd
     have HQ := ak (show ug (gf (b.attrs.take (k + 1)) a) = (k : Int) by rw [Cl b.attrs a k hka (by rw [hx]; exact hsd) (HND.out k hka)]; rfl)
     clear hx hx' hq hsd
     go_wp2_with (first
      | (refine au (some 9) rfl rfl 76 rfl [.string ⟨#[]⟩, .string ⟨#[]⟩] (fun _ => by kernel_rfl) ?_; intro gV W1 J aa I; have db := ge ag J; have fx := ne aM J; have lL := ne hH J; have ku := ne bC J; have aj := mv I aM; have jV := mv I hH; have bU := mv I bC; have bb := mv I aV; have bp := mv I bw; have bN := ak (Kd.R_mono (ok' := fun k_ => k_ ≠ gV) (Kd.R_below (Kd.R_bound bS.out) I) (fun k_ dc e_ => by have h_ := dc.2.2.1; omega)); have ao := ak (ag.out.trans (I.mono ag.out.size)); have g9 := ak (aa); clear J aa I aM hH bC aV bw bS ag)
      | (refine aK rfl 76 (.tmp 9) (.tmp 22) rfl gV [.string (vc x).f0, .string (vc x).f1] rfl rfl 76 _ g9.out 2 (by kernel_rfl) rfl rfl (AT x) ?_; intro W2 aa J; have aw := gx aj g9 J; have cr := gn jV lL J; have cD := gx bU g9 J; have bK := gr bb g9 J; have bX := gr bp g9 J; have cC := ak (Kd.R_mono (ok' := fun _ => True) (Kd.R_grown bN.out J (fun k_ dc e_ => dc (Option.some.inj e_))) (fun _ _ => trivial)); have ay := gb ao db J; have dJ := ak (aa); have nx := aa.cell 0 _ rfl; have mf := aa.cell 1 _ rfl; have GH := cr.out.cell 0 _ rfl; have GG := cr.out.cell 1 _ rfl; clear aa J aj jV bU bb bp bN ao g9))
     go_roundw
     case rel => exact ⟨k + 1, by omega, by go_num, by rw [HQ.out], aw, cr, cD, bK, bX, cC, ay⟩
     case measure => simp [intOf]; omega
    | false =>
     rw [e0, e1] at hsd
     have HQ := ak (show ug (gf (b.attrs.take (k + 1)) a) = q by rw [vX b.attrs a k hka (by rw [hx]; exact hsd), hq])
     clear hx hx' hq hsd
     go_wp2_with (first
      | (refine au (some 9) rfl rfl 76 rfl [.string ⟨#[]⟩, .string ⟨#[]⟩] (fun _ => by kernel_rfl) ?_; intro gV W1 J aa I; have db := ge ag J; have fx := ne aM J; have lL := ne hH J; have ku := ne bC J; have aj := mv I aM; have jV := mv I hH; have bU := mv I bC; have bb := mv I aV; have bp := mv I bw; have bN := ak (Kd.R_mono (ok' := fun k_ => k_ ≠ gV) (Kd.R_below (Kd.R_bound bS.out) I) (fun k_ dc e_ => by have h_ := dc.2.2.1; omega)); have ao := ak (ag.out.trans (I.mono ag.out.size)); have g9 := ak (aa); clear J aa I aM hH bC aV bw bS ag)
      | (refine aK rfl 76 (.tmp 9) (.tmp 22) rfl gV [.string (vc x).f0, .string (vc x).f1] rfl rfl 76 _ g9.out 2 (by kernel_rfl) rfl rfl (AT x) ?_; intro W2 aa J; have aw := gx aj g9 J; have cr := gn jV lL J; have cD := gx bU g9 J; have bK := gr bb g9 J; have bX := gr bp g9 J; have cC := ak (Kd.R_mono (ok' := fun _ => True) (Kd.R_grown bN.out J (fun k_ dc e_ => dc (Option.some.inj e_))) (fun _ _ => trivial)); have ay := gb ao db J; have dJ := ak (aa); have nx := aa.cell 0 _ rfl; have mf := aa.cell 1 _ rfl; have GH := cr.out.cell 0 _ rfl; have GG := cr.out.cell 1 _ rfl; clear aa J aj jV bU bb bp bN ao g9))
     go_roundw
     case rel => exact ⟨k + 1, by omega, by go_num, by rw [HQ.out], aw, cr, cD, bK, bX, cC, ay⟩
     case measure => simp [intOf]; omega
   | false =>
    rw [e0, Bool.false_and] at hsd
    have HQ := ak (show ug (gf (b.attrs.take (k + 1)) a) = q by rw [vX b.attrs a k hka (by rw [hx]; exact hsd), hq])
    clear hx hx' hq hsd
    go_wp2_with (first
     | (refine au (some 9) rfl rfl 76 rfl [.string ⟨#[]⟩, .string ⟨#[]⟩] (fun _ => by kernel_rfl) ?_; intro gV W1 J aa I; have db := ge ag J; have fx := ne aM J; have lL := ne hH J; have ku := ne bC J; have aj := mv I aM; have jV := mv I hH; have bU := mv I bC; have bb := mv I aV; have bp := mv I bw; have bN := ak (Kd.R_mono (ok' := fun k_ => k_ ≠ gV) (Kd.R_below (Kd.R_bound bS.out) I) (fun k_ dc e_ => by have h_ := dc.2.2.1; omega)); have ao := ak (ag.out.trans (I.mono ag.out.size)); have g9 := ak (aa); clear J aa I aM hH bC aV bw bS ag)
     | (refine aK rfl 76 (.tmp 9) (.tmp 22) rfl gV [.string (vc x).f0, .string (vc x).f1] rfl rfl 76 _ g9.out 2 (by kernel_rfl) rfl rfl (AT x) ?_; intro W2 aa J; have aw := gx aj g9 J; have cr := gn jV lL J; have cD := gx bU g9 J; have bK := gr bb g9 J; have bX := gr bp g9 J; have cC := ak (Kd.R_mono (ok' := fun _ => True) (Kd.R_grown bN.out J (fun k_ dc e_ => dc (Option.some.inj e_))) (fun _ _ => trivial)); have ay := gb ao db J; have dJ := ak (aa); have nx := aa.cell 0 _ rfl; have mf := aa.cell 1 _ rfl; have GH := cr.out.cell 0 _ rfl; have GG := cr.out.cell 1 _ rfl; clear aa J aj jV bU bb bp bN ao g9))
    go_roundw
    case rel => exact ⟨k + 1, by omega, by go_num, by rw [HQ.out], aw, cr, cD, bK, bX, cC, ay⟩
    case measure => simp [intOf]; omega
  ·obtain rfl : k = M.length := by omega
   have hkb : decide ((M.length : Int) < (M.length : Int)) = false := by simp
   rw [show b.attrs.take M.length = b.attrs from List.take_of_length_le (by rw [HML.out]; exact Nat.le_refl _)]
   cases hix : gf b.attrs a with
   | some j =>
    obtain ⟨gs, rfl⟩ := sq aV.out (by have := HL.out; omega)
    have HBS := ak (show b1 ≤ W.heap.size by
     have h1 := Kd.R_lt aV.out gs rfl
     have h2 := Kd.R_base aV.out gs rfl
     omega)
    have vT := bP
    have yk : gX ≠ gs := fun e_ => (aM.out.ne_row aV.out (by decide)) (by rw [e_]; rfl)
    have GC : gs ≠ gX := fun e_ => yk e_.symm
    have pi : ((i : Int) < (b.slots.length : Int)) = True := eq_true (by have := HL.out; omega)
    have HI := ak (show i < b.slots.length by have := HL.out; omega)
    have hji := yi hix
    have EB := ak (show ((eQ b.attrs a : Nat) : Int) = (j : Int) + 1 by unfold eQ; rw [hix]; show ((j + 1 : Nat) : Int) = _; omega)
    have zI := ak (show M = (eu b.attrs a).map vc by unfold eu; rw [hix]; exact zN.out)
    rw [show ug (some j) = (j : Int) from rfl]
    have Zl : j < 100 := by omega
    have hneg : decide ((j : Int) < 0) = false := decide_eq_false (by omega)
    clear hix
    have kr := aM.out.cell 2 _ rfl
    have rZ := (oE aV.out i HI.out).1
    have vC := (oE aV.out i HI.out).2
    have Lt := aM.out.cell 3 _ rfl
    go_wp2_with fail
    generalize bY : W.setCell ⟨gs, i, none⟩ (.int .i64 ((j : Int) + 1)) = W1; have J : W.grownBy W1 (some gs) := (by rw [← bY]; exact (nO aV.out i HI.out ((j : Int) + 1)).2); have aj := ak (aM.out.grown J (aM.out.ne_row aV.out (by decide))); have jV := ak (hH.out.grown J (hH.out.ne_row aV.out (by decide))); have bU := ak (bC.out.grown J (bC.out.ne_row aV.out (by decide))); have bb := ak ((nO aV.out i HI.out ((j : Int) + 1)).1); have bp := ak (Kd.R_grown bw.out J (fun k_ dc => dc)); have bN := ak (Kd.R_over bS.out aV.out (by decide) J); have ao := ak (ag.out.grown J ag.out.size (by intro k hk; cases hk; exact Nat.le_trans vT.out (Kd.R_base aV.out gs rfl))); rw [bY] at bb; clear bY J aM hH bC aV bw bS ag kr rZ vC Lt
    obtain ⟨sl, hsl⟩ : ∃ sl, sl = b.slots.set i ((j : Int) + 1) := ⟨_, rfl⟩
    have HSL := ak (show (fT b i a).slots = sl by rw [hsl]; show b.slots.set i ((eQ b.attrs a : Nat) : Int) = _; rw [EB.out])
    have HSN := ak (show b.slots.length = sl.length by rw [hsl, List.length_set])
    rw [← hsl] at bb
    clear hsl
    obtain ⟨b2, dD⟩ : ∃ b2, b2 = W1.heap.size := ⟨_, rfl⟩
    have HS' := ak (Kd.R_mono (ok' := fun k => k < b2) (Kd.R_bound bb.out) (fun k hk => by have := hk.2.2.1; omega))
    have HF' := ak (Kd.R_mono (ok' := fun k => k < b2) (Kd.R_bound bp.out) (fun k hk => by have := hk.2.2.1; omega))
    have wU := ak (show b2 ≤ W1.heap.size by omega)
    have HWB := ak (show w.heap.size ≤ b2 by have := ao.out.size; omega)
    clear dD
    clear yk GC pi
    go_loopw [10, 12, 48] (fun q _ u W => ∃ k : Nat, k ≤ b.free.length ∧ u = .int .i64 k ∧ Aside0 (aH W gX (dj b.addr b.aff (.slice (some ⟨gs, 0, none⟩) b.slots.length cs) (.slice Af b.free.length cf) (.slice Aa M.length ca)) 62) ∧ Aside0 (aH W gZ dH 62) ∧ Aside0 (Kd.R (Kd.int .i64) 3 W b1 (fun k => k < b2) (.slice (some ⟨gs, 0, none⟩) b.slots.length cs) sl) ∧ Aside0 (Kd.R (Kd.int .i64) 3 W b1 (fun k => k < b2) (.slice Af b.free.length cf) b.free) ∧ Aside0 (Kd.R ib 76 W b1 (fun _ => True) (.slice Aa M.length ca) M) ∧ Aside0 (Kd.R (Kd.int .i64) 3 W b2 (fun _ => True) q ((b.free.take k).filter (gg (i : Int)))) ∧ Aside0 (b2 ≤ W.heap.size) ∧ Aside0 (Below w.heap.size w W)) (fun _ _ u _ => b.free.length - (intOf u).toNat)
    case atStart => exact ⟨0, by omega, rfl, aj, bU, HS', HF', bN, ⟨Kd.R_nil _ _ _ _ _⟩, wU, ao⟩
    case round =>
     clear HS' HF' wU aj jV bU bb bp bN ao
     obtain ⟨k, qJ, rfl, aM, bC, aV, bw, bS, ig, iV, ag⟩ := hrel
     obtain ⟨W, rfl⟩ : ∃ W : World, W = wr := ⟨_, rfl⟩
     have hfl := HFL.out
     by_cases hkm : k < b.free.length
     ·have hkb : decide ((k : Int) < (b.free.length : Int)) = true := by simp; omega
      obtain ⟨ad, eA, hx⟩ := Kd.at_int (Kd.R_reads' bw.out).2.2 k (by omega) (by omega)
      cases eA
      rw [Int.toNat_natCast] at hx
      have p1 : ((k : Int) < (b.free.length : Int)) = True := eq_true (by omega)
      have hrd : rd b.free k = b.free[k] := by simp [rd, List.getD, hkm]
      have hkt := BI b.free (i : Int) k hkm
      obtain ⟨x, hxx⟩ : ∃ x, x = b.free[k] := ⟨_, rfl⟩
      rw [← hxx] at hrd hkt
      rw [hrd] at hx
      obtain ⟨lk, hlk⟩ : ∃ lk, lk = (b.free.take k).filter (gg (i : Int)) := ⟨_, rfl⟩
      have HLL := ak (show lk.length ≤ 1000 by rw [hlk]; have h1 := List.length_filter_le (gg (i : Int)) (b.free.take k); rw [List.length_take] at h1; omega)
      rw [← hlk] at ig hkt
      obtain ⟨Al, cl, rfl⟩ := Kd.R_slice ig.out
      cases hq : (x == (i : Int)) with
      | true =>
       have xP : (x != (i : Int)) = false := by rw [bne, hq]; rfl
       have HKT := ak (show (b.free.take (k + 1)).filter (gg (i : Int)) = lk by rw [hkt, hq]; simp)
       clear hrd hkt hxx hlk
       go_wp2_with fail
       go_roundw
       case rel => exact ⟨k + 1, by omega, by go_num, aM, bC, aV, bw, bS, ⟨by rw [HKT.out]; exact ig.out⟩, iV, ag⟩
       case measure => simp [intOf]; omega
      | false =>
       have xP : (x != (i : Int)) = true := by rw [bne, hq]; rfl
       obtain ⟨l1, Dp⟩ : ∃ l1, l1 = lk ++ [x] := ⟨_, rfl⟩
       have xY := ak Dp
       have HKT := ak (show (b.free.take (k + 1)).filter (gg (i : Int)) = l1 by rw [hkt, hq, Dp]; simp)
       clear hrd hkt hxx hlk Dp
       go_wp2_with (first
        | ((with_reducible refine bG (b := .append) (xs := #[.tmp 55, .tmp 57]) rfl ?_); at_builtin; refine Kd.R_append (Kd.int .i64) (w0 := W) b2 rfl (.tmp 55) (.tmp 57) 31 3 (.int .i64 0) 8 rfl Try.underlying31 Dh rfl (by decide) (by omega) _ lk x [.int .i64 x] (fun _ => True) (fun _ => False) rfl rfl rfl (fun _ hk => hk.elim) (fun _ _ => trivial) ig.out (Below.refl _ _) iV.out (by have := HLL.out; omega) ?_; intro v_ W1 aW I J fP; rw [← xY.out] at aW; have aj := ak (aM.out.grown J (aM.out.ne_row ig.out (by decide))); have bU := ak (bC.out.grown J (bC.out.ne_row ig.out (by decide))); have bb := ak (xy aV.out (fun _ h_ => h_) ig.out J); have bp := ak (xy bw.out (fun _ h_ => h_) ig.out J); have bN := ak (Kd.R_over bS.out ig.out (by decide) J); have vS := ak (aW); have j4 := ak (Nat.le_trans iV.out J.size); have ao := ak (ag.out.trans (I.mono HWB.out)); obtain ⟨AL, cL, rfl⟩ := Kd.R_slice aW; clear aW I J fP aM bC aV bw bS ig iV ag))
       go_roundw
       case rel => exact ⟨k + 1, by omega, by go_num, aj, bU, bb, bp, bN, ⟨by rw [HKT.out]; exact vS.out⟩, j4, ao⟩
       case measure => simp [intOf]; omega
     ·obtain rfl : k = b.free.length := by omega
      have hkb : decide ((b.free.length : Int) < (b.free.length : Int)) = false := by simp
      rw [List.take_of_length_le (Nat.le_refl b.free.length)] at ig
      obtain ⟨lk, hlk⟩ : ∃ lk, lk = b.free.filter (gg (i : Int)) := ⟨_, rfl⟩
      rw [← hlk] at ig
      have HGB := ak (show fT b i a = ⟨b.addr, b.aff, sl, lk, eu b.attrs a⟩ by rw [hlk, ← HSL.out]; rfl)
      obtain ⟨Al, cl, rfl⟩ := Kd.R_slice ig.out
      clear hlk hfl
      have pS := aM.out.cell 3 _ rfl
      have J8 := aM.out.frozen 3
      go_wp2_with (first
       | ((with_reducible refine av (N := 62) rfl ?_); generalize bY : W.setCell ⟨gX, 3, none⟩ (.slice Al lk.length cl) = W1; have J : W.grownBy W1 (some gX) := (by rw [← bY]; exact bs _ _ _ _); have aj := ak (aM.out.set 3 (.slice Al lk.length cl)); have bU := gm bC aG J; have bb := gr aV aM J; have bp := gr bw aM J; have bN := gr bS aM J; have vS := gr ig aM J; have j4 := ak (Nat.le_trans iV.out J.size); have ao := gb ag cg J; rw [bY] at aj; clear bY J aM bC aV bw bS ig iV ag pS J8; refine az rfl 62 (.tmp 3) rfl gX rfl _ _ _ aj.out Try.underlying62 rfl 5 (by kernel_rfl) rfl ?_)
       | (refine aK rfl 62 (.tmp 6) (.tmp 62) rfl gZ (dj b.addr b.aff (.slice (some ⟨gs, 0, none⟩) b.slots.length cs) (.slice Al lk.length cl) (.slice Aa M.length ca)) rfl rfl 62 _ bU.out 5 (by kernel_rfl) rfl rfl (dM _ _ rfl rfl rfl) ?_; intro W2 aa J; have aw := gn aj aG J; have cD := ak (aa); have bK := gr bb bU J; have bX := gr bp bU J; have cC := gr bN bU J; have KS := gr vS bU J; have cA := ak (Nat.le_trans j4.out J.size); have ay := gb ao cb J; clear aa J aj bU bb bp bN vS j4 ao))
      refine bodyPost_ret (results_cell_row rfl _ _ gZ 62 _ (0, 0) _ rfl cD.out Try.underlying62 rfl (by kernel_rfl)) rfl ⟨_, rfl, ?_, ay.out⟩
      rw [HGB.out]
      refine ⟨_, _, _, rfl, ?_, ?_, ?_⟩
      ·exact Kd.R_lower (Kd.R_mono bK.out (fun _ _ => trivial)) bP.out
      ·exact Kd.R_lower KS.out HWB.out
      ·rw [← zI.out]; exact Kd.R_lower cC.out bP.out
   | none =>
    obtain ⟨gs, rfl⟩ := sq aV.out (by have := HL.out; omega)
    have HBS := ak (show b1 ≤ W.heap.size by
     have h1 := Kd.R_lt aV.out gs rfl
     have h2 := Kd.R_base aV.out gs rfl
     omega)
    have vT := bP
    have yk : gX ≠ gs := fun e_ => (aM.out.ne_row aV.out (by decide)) (by rw [e_]; rfl)
    have GC : gs ≠ gX := fun e_ => yk e_.symm
    have pi : ((i : Int) < (b.slots.length : Int)) = True := eq_true (by have := HL.out; omega)
    have HI := ak (show i < b.slots.length by have := HL.out; omega)
    have EB := ak (show ((eQ b.attrs a : Nat) : Int) = (M.length : Int) + 1 by unfold eQ; rw [hix, HML.out]; show ((b.attrs.length + 1 : Nat) : Int) = _; omega)
    have wa : M ++ [vc a] = (eu b.attrs a).map vc := by unfold eu; rw [hix, List.map_append, ← zN.out]; rfl
    rw [show ug none = (-1 : Int) from rfl]
    clear hix
    have Pv := aM.out.cell 4 _ rfl
    have GH := hH.out.cell 0 _ rfl
    have GG := hH.out.cell 1 _ rfl
    obtain ⟨M1, DH⟩ : ∃ M1, M1 = M ++ [vc a] := ⟨_, rfl⟩
    have Mc := ak DH
    have zI := ak (show M1 = (eu b.attrs a).map vc by rw [DH, wa])
    clear DH wa
    go_wp2_with (first
     | ((with_reducible refine bG (b := .append) (xs := #[.tmp 34, .tmp 36]) rfl ?_); at_builtin; refine Kd.R_append ib (w0 := W) b1 rfl (.tmp 34) (.tmp 36) 49 76 (.agg #[.string ⟨#[]⟩, .string ⟨#[]⟩]) 32 rfl Try.underlying49 yh rfl (by decide) (by omega) _ M (vc a) [.string (vc a).f0, .string (vc a).f1] (fun _ => True) (fun _ => False) rfl rfl (AZ _ _ _ _) (fun _ hk => hk.elim) (fun _ _ => trivial) bS.out (Below.refl _ _) HBS.out (by omega) ?_; intro v_ W1 aW I J fP; rw [← Mc.out] at aW; have aj := ak (aM.out.grown J (aM.out.ne_row bS.out (by decide))); have jV := ak (hH.out.grown J (fun e_ => by have h_ := Kd.R_base bS.out _ e_.symm; have FG := HGL.out; omega)); have bU := ak (bC.out.grown J (bC.out.ne_row bS.out (by decide))); have bb := ak (Kd.R_over aV.out bS.out (by decide) J); have bp := ak (Kd.R_over bw.out bS.out (by decide) J); have bN := ak (aW); have ao := ak (ag.out.trans (I.mono bP.out)); obtain ⟨AM, cM, rfl⟩ := Kd.R_slice aW; have oR := aj.out.cell 4 _ rfl; have Dz := aj.out.frozen 4; have kr := aj.out.cell 2 _ rfl; have Lt := aj.out.cell 3 _ rfl; have rZ := (oE bb.out i HI.out).1; have vC := (oE bb.out i HI.out).2; clear aW I J fP aM hH bC aV bw bS ag Pv GH GG))
    generalize bY : W1.setCell ⟨gX, 4, none⟩ (.slice AM M1.length cM) = W2; have J : W1.grownBy W2 (some gX) := (by rw [← bY]; exact bs _ _ _ _); have aw := ak (aj.out.set 4 (.slice AM M1.length cM)); have cr := gx jV aj J; have cD := gm bU aG J; have bK := gr bb aj J; have bX := gr bp aj J; have cC := gr bN aj J; have ay := gb ao cg J; rw [bY] at aw; clear bY J aj jV bU bb bp bN ao oR Dz kr Lt rZ vC
    generalize bY : W2.setCell ⟨gs, i, none⟩ (.int .i64 ((M.length : Int) + 1)) = W3; have J : W2.grownBy W3 (some gs) := (by rw [← bY]; exact (nO bK.out i HI.out ((M.length : Int) + 1)).2); have aC := ak (aw.out.grown J (aw.out.ne_row bK.out (by decide))); have dm := ak (cr.out.grown J (cr.out.ne_row bK.out (by decide))); have cd := ak (cD.out.grown J (cD.out.ne_row bK.out (by decide))); have b6 := ak ((nO bK.out i HI.out ((M.length : Int) + 1)).1); have cy := ak (Kd.R_grown bX.out J (fun k_ dc => dc)); have da := ak (Kd.R_over cC.out bK.out (by decide) J); have aE := ak (ay.out.grown J ay.out.size (by intro k hk; cases hk; exact Nat.le_trans vT.out (Kd.R_base bK.out gs rfl))); rw [bY] at b6; clear bY J aw cr cD bK bX cC ay
    obtain ⟨sl, hsl⟩ : ∃ sl, sl = b.slots.set i ((M.length : Int) + 1) := ⟨_, rfl⟩
    have HSL := ak (show (fT b i a).slots = sl by rw [hsl]; show b.slots.set i ((eQ b.attrs a : Nat) : Int) = _; rw [EB.out])
    have HSN := ak (show b.slots.length = sl.length by rw [hsl, List.length_set])
    rw [← hsl] at b6
    clear hsl
    obtain ⟨b2, dD⟩ : ∃ b2, b2 = W3.heap.size := ⟨_, rfl⟩
    have HS' := ak (Kd.R_mono (ok' := fun k => k < b2) (Kd.R_bound b6.out) (fun k hk => by have := hk.2.2.1; omega))
    have HF' := ak (Kd.R_mono (ok' := fun k => k < b2) (Kd.R_bound cy.out) (fun k hk => by have := hk.2.2.1; omega))
    have wU := ak (show b2 ≤ W3.heap.size by omega)
    have HWB := ak (show w.heap.size ≤ b2 by have := aE.out.size; omega)
    clear dD
    clear yk GC pi
    go_loopw [10, 12, 48] (fun q _ u W => ∃ k : Nat, k ≤ b.free.length ∧ u = .int .i64 k ∧ Aside0 (aH W gX (dj b.addr b.aff (.slice (some ⟨gs, 0, none⟩) b.slots.length cs) (.slice Af b.free.length cf) (.slice AM M1.length cM)) 62) ∧ Aside0 (aH W gZ dH 62) ∧ Aside0 (Kd.R (Kd.int .i64) 3 W b1 (fun k => k < b2) (.slice (some ⟨gs, 0, none⟩) b.slots.length cs) sl) ∧ Aside0 (Kd.R (Kd.int .i64) 3 W b1 (fun k => k < b2) (.slice Af b.free.length cf) b.free) ∧ Aside0 (Kd.R ib 76 W b1 (fun _ => True) (.slice AM M1.length cM) M1) ∧ Aside0 (Kd.R (Kd.int .i64) 3 W b2 (fun _ => True) q ((b.free.take k).filter (gg (i : Int)))) ∧ Aside0 (b2 ≤ W.heap.size) ∧ Aside0 (Below w.heap.size w W)) (fun _ _ u _ => b.free.length - (intOf u).toNat)
    case atStart => exact ⟨0, by omega, rfl, aC, cd, HS', HF', da, ⟨Kd.R_nil _ _ _ _ _⟩, wU, aE⟩
    case round =>
     clear HS' HF' wU aC dm cd b6 cy da aE
     obtain ⟨k, qJ, rfl, aM, bC, aV, bw, bS, ig, iV, ag⟩ := hrel
     obtain ⟨W, rfl⟩ : ∃ W : World, W = wr := ⟨_, rfl⟩
     have hfl := HFL.out
     by_cases hkm : k < b.free.length
     ·have hkb : decide ((k : Int) < (b.free.length : Int)) = true := by simp; omega
      obtain ⟨ad, eA, hx⟩ := Kd.at_int (Kd.R_reads' bw.out).2.2 k (by omega) (by omega)
      cases eA
      rw [Int.toNat_natCast] at hx
      have p1 : ((k : Int) < (b.free.length : Int)) = True := eq_true (by omega)
      have hrd : rd b.free k = b.free[k] := by simp [rd, List.getD, hkm]
      have hkt := BI b.free (i : Int) k hkm
      obtain ⟨x, hxx⟩ : ∃ x, x = b.free[k] := ⟨_, rfl⟩
      rw [← hxx] at hrd hkt
      rw [hrd] at hx
      obtain ⟨lk, hlk⟩ : ∃ lk, lk = (b.free.take k).filter (gg (i : Int)) := ⟨_, rfl⟩
      have HLL := ak (show lk.length ≤ 1000 by rw [hlk]; have h1 := List.length_filter_le (gg (i : Int)) (b.free.take k); rw [List.length_take] at h1; omega)
      rw [← hlk] at ig hkt
      obtain ⟨Al, cl, rfl⟩ := Kd.R_slice ig.out
      cases hq : (x == (i : Int)) with
      | true =>
       have xP : (x != (i : Int)) = false := by rw [bne, hq]; rfl
       have HKT := ak (show (b.free.take (k + 1)).filter (gg (i : Int)) = lk by rw [hkt, hq]; simp)
       clear hrd hkt hxx hlk
       go_wp2_with fail
       go_roundw
       case rel => exact ⟨k + 1, by omega, by go_num, aM, bC, aV, bw, bS, ⟨by rw [HKT.out]; exact ig.out⟩, iV, ag⟩
       case measure => simp [intOf]; omega
      | false =>
       have xP : (x != (i : Int)) = true := by rw [bne, hq]; rfl
       obtain ⟨l1, Dp⟩ : ∃ l1, l1 = lk ++ [x] := ⟨_, rfl⟩
       have xY := ak Dp
       have HKT := ak (show (b.free.take (k + 1)).filter (gg (i : Int)) = l1 by rw [hkt, hq, Dp]; simp)
       clear hrd hkt hxx hlk Dp
       go_wp2_with (first
        | ((with_reducible refine bG (b := .append) (xs := #[.tmp 55, .tmp 57]) rfl ?_); at_builtin; refine Kd.R_append (Kd.int .i64) (w0 := W) b2 rfl (.tmp 55) (.tmp 57) 31 3 (.int .i64 0) 8 rfl Try.underlying31 Dh rfl (by decide) (by omega) _ lk x [.int .i64 x] (fun _ => True) (fun _ => False) rfl rfl rfl (fun _ hk => hk.elim) (fun _ _ => trivial) ig.out (Below.refl _ _) iV.out (by have := HLL.out; omega) ?_; intro v_ W1 aW I J fP; rw [← xY.out] at aW; have aj := ak (aM.out.grown J (aM.out.ne_row ig.out (by decide))); have bU := ak (bC.out.grown J (bC.out.ne_row ig.out (by decide))); have bb := ak (xy aV.out (fun _ h_ => h_) ig.out J); have bp := ak (xy bw.out (fun _ h_ => h_) ig.out J); have bN := ak (Kd.R_over bS.out ig.out (by decide) J); have vS := ak (aW); have j4 := ak (Nat.le_trans iV.out J.size); have ao := ak (ag.out.trans (I.mono HWB.out)); obtain ⟨AL, cL, rfl⟩ := Kd.R_slice aW; clear aW I J fP aM bC aV bw bS ig iV ag))
       go_roundw
       case rel => exact ⟨k + 1, by omega, by go_num, aj, bU, bb, bp, bN, ⟨by rw [HKT.out]; exact vS.out⟩, j4, ao⟩
       case measure => simp [intOf]; omega
     ·obtain rfl : k = b.free.length := by omega
      have hkb : decide ((b.free.length : Int) < (b.free.length : Int)) = false := by simp
      rw [List.take_of_length_le (Nat.le_refl b.free.length)] at ig
      obtain ⟨lk, hlk⟩ : ∃ lk, lk = b.free.filter (gg (i : Int)) := ⟨_, rfl⟩
      rw [← hlk] at ig
      have HGB := ak (show fT b i a = ⟨b.addr, b.aff, sl, lk, eu b.attrs a⟩ by rw [hlk, ← HSL.out]; rfl)
      obtain ⟨Al, cl, rfl⟩ := Kd.R_slice ig.out
      clear hlk hfl
      have pS := aM.out.cell 3 _ rfl
      have J8 := aM.out.frozen 3
      go_wp2_with (first
       | ((with_reducible refine av (N := 62) rfl ?_); generalize bY : W.setCell ⟨gX, 3, none⟩ (.slice Al lk.length cl) = W1; have J : W.grownBy W1 (some gX) := (by rw [← bY]; exact bs _ _ _ _); have aj := ak (aM.out.set 3 (.slice Al lk.length cl)); have bU := gm bC aG J; have bb := gr aV aM J; have bp := gr bw aM J; have bN := gr bS aM J; have vS := gr ig aM J; have j4 := ak (Nat.le_trans iV.out J.size); have ao := gb ag cg J; rw [bY] at aj; clear bY J aM bC aV bw bS ig iV ag pS J8; refine az rfl 62 (.tmp 3) rfl gX rfl _ _ _ aj.out Try.underlying62 rfl 5 (by kernel_rfl) rfl ?_)
       | (refine aK rfl 62 (.tmp 6) (.tmp 62) rfl gZ (dj b.addr b.aff (.slice (some ⟨gs, 0, none⟩) b.slots.length cs) (.slice Al lk.length cl) (.slice AM M1.length cM)) rfl rfl 62 _ bU.out 5 (by kernel_rfl) rfl rfl (dM _ _ rfl rfl rfl) ?_; intro W2 aa J; have aw := gn aj aG J; have cD := ak (aa); have bK := gr bb bU J; have bX := gr bp bU J; have cC := gr bN bU J; have KS := gr vS bU J; have cA := ak (Nat.le_trans j4.out J.size); have ay := gb ao cb J; clear aa J aj bU bb bp bN vS j4 ao))
      refine bodyPost_ret (results_cell_row rfl _ _ gZ 62 _ (0, 0) _ rfl cD.out Try.underlying62 rfl (by kernel_rfl)) rfl ⟨_, rfl, ?_, ay.out⟩
      rw [HGB.out]
      refine ⟨_, _, _, rfl, ?_, ?_, ?_⟩
      ·exact Kd.R_lower (Kd.R_mono bK.out (fun _ _ => trivial)) bP.out
      ·exact Kd.R_lower KS.out HWB.out
      ·rw [← zI.out]; exact Kd.R_lower cC.out bP.out
end Go.Proofs.Ytemhalnhbgkbcaa.V
end

section
namespace Go.Proofs.Ytemhalnhbgkbcaa.V
def lK (k : Nat) (s : Int) : Int := if s > (k : Int) + 1 then s - 1 else s
def kt (b : Bk) (k : Nat) : Bk := ⟨b.addr, b.aff, b.slots.map (lK k), b.free, b.attrs.take k ++ b.attrs.drop (k + 1)⟩
def nw (k : Nat) (l : List Int) (j : Nat) : List Int := (l.take j).map (lK k) ++ l.drop j
theorem C7 (k : Nat) (l : List Int) (j : Nat) (h : j < l.length) : rd (nw k l j) j = l[j] := by
 unfold nw rd
 have e : ((l.take j).map (lK k)).length = j := by rw [List.length_map, List.length_take]; omega
 rw [Int.toNat_natCast, List.getD_eq_getElem?_getD, List.getElem?_append_right (by omega), e, Nat.sub_self, List.getElem?_drop, Nat.add_zero, List.getElem?_eq_getElem h]
 rfl
theorem C6 (k : Nat) (l : List Int) (j : Nat) (h : j < l.length) : (nw k l j).set j (lK k l[j]) = nw k l (j + 1) := by
 unfold nw
 have e : ((l.take j).map (lK k)).length = j := by rw [List.length_map, List.length_take]; omega
 rw [List.set_append, if_neg (by omega), e, Nat.sub_self, List.drop_eq_getElem_cons h, List.set_cons_zero, List.take_succ_eq_append_getElem h, List.map_append]
 simp
theorem BG (k : Nat) (l : List Int) (j : Nat) (h : j < l.length) (hs : lK k l[j] = l[j]) : nw k l (j + 1) = nw k l j := by
 unfold nw
 rw [List.take_succ_eq_append_getElem h, List.map_append, List.drop_eq_getElem_cons h]
 simp [hs]
theorem C8 (k : Nat) (l : List Int) : nw k l l.length = l.map (lK k) := by simp [nw]
def p8.T2 : Bool × List (List Nat × List Nat) := (true, [([], []), ([0], [0]), ([], []), ([1, 2], [1, 2]), ([], []), ([4], [4]), ([], []), ([6], [6]), ([5, 7], [5, 7]), ([3, 8], [3, 8]), ([0, 1, 2, 3, 4, 5, 6, 7, 8, 9], []), ([10, 9, 9, 0, 1, 2, 3, 4, 5, 6, 7, 8, 9], [9, 10])])
def p8.B2 : List Nat := [0, 1, 0, 7, 0, 16, 0, 64, 240, 511, 1023, 2047]
theorem p8.tab2 : ed .any (opsOf Try.f108 2) = p8.T2 := by kernel_rfl
theorem p8.bits2 : dL p8.T2.2 p8.B2 = true := by kernel_rfl
set_option maxHeartbeats 16000000 in
set_option maxRecDepth 100000 in
theorem Kq (b : Bk) (hl : b.slots.length = 64) (SN : fV b.slots) (hf : b.free.length ≤ 5000) (ha : b.attrs.length ≤ 100) (k : Nat) (hk : k < b.attrs.length) (v : Value) (w : World) (h : ki w v b) :
  Calls Try.prog 108 #[v, .int .i64 k] w fun e w' => ∃ v', e = .returned v' ∧ eU w' w.heap.size v' (kt b k) ∧ Below w.heap.size w w' := by
 obtain ⟨M, Jv, IY, Jw, I2, Jx, I4, rfl, hr⟩ := h
 have zN := ak hr.m
 have hml : M.length = b.attrs.length := by rw [hr.m, List.length_map]
 have HR := ak hr
 have HL := ak hl
 have Tb := ak SN
 have Dn : M.length ≤ 100 := by omega
 have hkm : k < M.length := by omega
 have HCP := ak (fun w h => Cv b (by omega) hf M (by omega) Jv IY Jw I2 Jx I4 w h)
 have ag := ak (Below.refl w.heap.size w)
 clear hr hl hml hf SN
 go_enter Try.func108, Try.ntmps108
 go_wp2_with (first
  | (refine aD rfl 62 (.tmp 0) rfl _ rfl ?_; intro gX W1 J aa I; have cg := ge ag J; have ao := ak (ag.out.trans (I.mono ag.out.size)); have aj := ak (aa); clear J aa I ag)
  | (refine au (some 4) rfl rfl 62 rfl dH (fun _ => by kernel_rfl) ?_; intro gZ W2 J aa I; have cb := ge ao J; have aG := ne aj J; have ay := mv I ao; have aw := mv I aj; have cD := ak (aa); clear J aa I ao aj)
  | ((with_reducible refine av (N := 7) rfl ?_); go_loud (refine az rfl 62 (.tmp 2) rfl gX rfl _ _ _ aw.out Try.underlying62 rfl 5 (by kernel_rfl) rfl ?_))
  | (go_at_call 85; go_loud (refine (HCP.out _ (HR.out.below ay.out)).mono ?_; rintro e W3 ⟨vs, vf, va, rfl, uY, dQ, eE, I⟩; obtain ⟨As, cs, rfl⟩ := Kd.R_slice uY; obtain ⟨Af, cf, rfl⟩ := Kd.R_slice dQ; obtain ⟨Aa, ca, rfl⟩ := Kd.R_slice eE; have HSZ := ak ay.out.size; have aE := mv I ay; have aC := mv I aw; have cd := mv I cD; have b6 := ak (uY); have cy := ak (dQ); have da := ak (eE); have cB := ak (I.size); clear uY dQ eE I ay aw cD))
  | (go_loud (refine aK rfl 62 (.tmp 2) (.tmp 8) rfl gX (dj b.addr b.aff (.slice As b.slots.length cs) (.slice Af b.free.length cf) (.slice Aa M.length ca)) rfl rfl 62 _ aC.out 5 (by kernel_rfl) rfl rfl (dM _ _ rfl rfl rfl) ?_; intro W4 aa J; have a8 := gb aE cg J; have aY := ak (aa); have bd := gm cd aG J; have cw := gr b6 aC J; have cx := gr cy aC J; have cR := gr da aC J; have b5 := ak (Nat.le_trans cB.out J.size); clear aa J aE aC cd b6 cy da cB)))
 obtain ⟨b1, bq⟩ : ∃ b1, b1 = W2.heap.size := ⟨_, rfl⟩
 rw [← bq] at cw cx cR b5 HSZ
 have bP := ak (show w.heap.size ≤ b1 from HSZ.out)
 clear bq HSZ
 have al : Below W4.heap.size W4 W4.drew := br (Below.refl _ _)
 have bj := mv al a8; have bc := mv al aY; have bI := mv al bd; have cQ := mv al cw; have cj := mv al cx; have cH := mv al cR; have cY := ak (Nat.le_trans b5.out al.size)
 clear al a8 aY bd cw cx cR b5
 obtain ⟨gs, rfl⟩ := sq cQ.out (by have := HL.out; omega)
 obtain ⟨ga, rfl⟩ := sq cH.out (by omega)
 have hca : M.length ≤ ca := (Kd.R_reads' cH.out).2.1
 have HTK := ak (Kd.R_take cH.out (m := k) (by omega))
 have hdr := Kd.C_drop (m := k + 1) (Kd.R_reads' cH.out).2.2 (by omega) hca
 rw [show (M.drop (k + 1)).length = M.length - (k + 1) from List.length_drop] at hdr
 have HDR := ak hdr
 have p1 : ((k : Int) ≤ (ca : Int)) = True := eq_true (by omega)
 have p2 : ((k : Int) + 1 ≤ (M.length : Int)) = True := eq_true (by omega)
 have p3 : ((k : Int) ≤ (k : Int) + 1) = True := eq_true (by omega)
 have p4 : ((0 : Int) ≤ (k : Int) + 1) = True := eq_true (by omega)
 have SM : wrap64 ((k : Int) + 1) = (k : Int) + 1 := ik _ (by omega) (by omega)
 clear hdr
 obtain ⟨M1, DH⟩ : ∃ M1, M1 = M.take k ++ M.drop (k + 1) := ⟨_, rfl⟩
 have Mc := ak DH
 have BZ := ak (show M1 = (b.attrs.take k ++ b.attrs.drop (k + 1)).map vc by rw [DH, zN.out, List.map_append, List.map_take, List.map_drop])
 clear DH
 by_cases hne : ca = k + 1
 ·subst hne
  have h_ := HDR.out
  rw [if_pos rfl, show M.length - (k + 1) = 0 by omega] at h_
  have KT := ak h_
  clear h_
  refine dd (n := 12) (S := fun w' => w'.cell? ⟨gX, 4, none⟩ = some (.slice (some ⟨ga, 0, none⟩) M.length (k + 1))) (ds := [11]) #[false, false, false, false, false, false, false, false, false, false, false, false] (by kernel_rfl) rfl rfl (bc.out.cell 4 _ rfl) (fun hHeld => ?_); refine bQ p8.tab2 p8.bits2 (fun ae bA => ?_)
  refine pu 0 ae.out ?_
  refine tk 1 ae.out bA.out hHeld ?_
  refine pu 2 ae.out ?_
  refine pu 3 ae.out ?_
  refine pu 4 ae.out ?_
  refine tk 5 ae.out bA.out hHeld ?_
  refine pu 6 ae.out ?_
  refine pu 7 ae.out ?_
  refine pu 8 ae.out ?_
  refine on 9 ae.out (fun K hK => ?_)
  refine Kd.R_append_rows_step ib (Rr := ib.K _) (w0 := W4.drew) b1 (by rfl) (.tmp 12) (.tmp 17) 49 76 (.agg #[.string ⟨#[]⟩, .string ⟨#[]⟩]) 32 rfl Try.underlying49 yh rfl (by decide) (by omega) (.slice (some ⟨ga, 0, none⟩) k (k + 1)) (M.take k) (M.drop (k + 1)) (some ⟨ga, 0, none⟩) 0 0 (fun _ => True) (fun _ => False) rfl rfl HTK.out KT.out (fun x cs aa => by rw [yg aa]; exact AZ _ _ _ _) (fun _ h_ => h_.elim) (fun _ _ => trivial) (Below.refl _ _) cY.out (by rw [List.length_take]; omega) ?_
  intro v_ V1 aW I J fP
  replace J : W4.drew.grownBy V1 (Value.slice (some ⟨ga, 0, none⟩) M.length (k + 1)).ownBlock := J
  rw [← Mc.out] at aW
  have bO := ak (bj.out.trans (I.mono bP.out)); have bl := ak (bc.out.grown J (bc.out.ne_row cH.out (by decide))); have bW := ak (bI.out.grown J (bI.out.ne_row cH.out (by decide))); have cZ := ak (Kd.R_over cQ.out cH.out (by decide) J); have cU := ak (Kd.R_over cj.out cH.out (by decide) J); have dE := ak (aW); have dh := ak (Nat.le_trans cY.out J.size)
  obtain ⟨AM, cM, rfl⟩ := Kd.R_slice aW
  clear aW I J fP bj bc bI cQ cj cH cY
  refine kn hK (bl.out.cell 4 _ rfl) (fun hHeld => ?_)
  clear hK K
  refine pu 10 ae.out ?_
  refine vz (i := 11) (N := none) #[true, true, true, true, true, true, true, true, true, true, true, true] rfl rfl (oP ae.out (by kernel_rfl)) (by decide) (fun K hK => ?_)
  have Dz := bl.out.frozen 4; have oR := bl.out.cell 4 _ rfl
  refine qN (w1 := ?_) (by rfl) rfl ?_ ?_
  rotate_left
  ·go_simp
   rfl
  refine hK.out _ _ ?_
  clear hK K
  refine dn ae.out ?_
  clear Dz oR hHeld
  generalize bY : V1.setCell ⟨gX, 4, none⟩ (.slice AM M1.length cM) = W7; have J : V1.grownBy W7 (some gX) := (by rw [← bY]; exact bs _ _ _ _); have ew := gb bO cg J; have dI := ak (bl.out.set 4 (.slice AM M1.length cM)); have dz := gm bW aG J; have gE := gr cZ bl J; have fu := gr cU bl J; have ky := gr dE bl J; have lf := ak (Nat.le_trans dh.out J.size); rw [bY] at dI; clear bY J bO bl bW cZ cU dE dh
  have vT := bP
  have kr := dI.out.cell 2 _ rfl
  go_wp2_with fail
  clear kr
  go_loopw [5, 6, 23] (fun _ _ u W => ∃ j : Nat, j ≤ 64 ∧ u = .int .i64 j ∧ Aside0 (aH W gX (dj b.addr b.aff (.slice (some ⟨gs, 0, none⟩) b.slots.length cs) (.slice Af b.free.length cf) (.slice AM M1.length cM)) 62) ∧ Aside0 (aH W gZ dH 62) ∧ Aside0 (Kd.R (Kd.int .i64) 3 W b1 (fun k => some k ≠ (Value.slice Af b.free.length cf).ownBlock) (.slice (some ⟨gs, 0, none⟩) b.slots.length cs) (nw k b.slots j)) ∧ Aside0 (Kd.R (Kd.int .i64) 3 W b1 (fun k => some k ≠ (Value.slice (some ⟨gs, 0, none⟩) b.slots.length cs).ownBlock) (.slice Af b.free.length cf) b.free) ∧ Aside0 (Kd.R ib 76 W b1 (fun _ => True) (.slice AM M1.length cM) M1) ∧ Aside0 (Below w.heap.size w W)) (fun _ _ u _ => 64 - (intOf u).toNat)
  case atStart => exact ⟨0, by omega, rfl, dI, dz, gE, fu, ky, ew⟩
  case round =>
   clear ew dI dz gE fu ky lf
   obtain ⟨j, hj, rfl, aM, bC, aV, bw, bS, ag⟩ := hrel
   obtain ⟨W, rfl⟩ : ∃ W : World, W = wr := ⟨_, rfl⟩
   by_cases hjn : j < 64
   ·have hkb : decide ((j : Int) < (b.slots.length : Int)) = true := by rw [HL.out]; simp; omega
    have hjl : j < b.slots.length := by rw [HL.out]; exact hjn
    have hcl := oE aV.out j hjl
    rw [C7 k b.slots j hjl] at hcl
    have hms := Tb.out _ (List.getElem_mem hjl)
    have hst := C6 k b.slots j hjl
    have hsm := BG k b.slots j hjl
    obtain ⟨m, hm⟩ : ∃ m : Nat, b.slots[j] = (m : Int) := ⟨(b.slots[j]).toNat, by omega⟩
    rw [hm] at hcl hms hst hsm
    have rZ := hcl.1
    have pj : ((j : Int) < (b.slots.length : Int)) = True := eq_true (by omega)
    have kr := aM.out.cell 2 _ rfl
    have r8 := hms.2
    by_cases hgt : (m : Int) > (k : Int) + 1
    ·have vC := hcl.2
     have HST := ak (show (nw k b.slots j).set j ((m : Int) - 1) = nw k b.slots (j + 1) by rw [← hst]; congr 1; unfold lK; rw [if_pos hgt])
     have HJL := ak hjl
     clear hcl hst hsm hms hm
     go_wp2_with fail
     generalize bY : W.setCell ⟨gs, j, none⟩ (.int .i64 ((m : Int) - 1)) = W1; have J : W.grownBy W1 (some gs) := (by rw [← bY]; exact (nO aV.out j HJL.out ((m : Int) - 1)).2); have aj := ak (aM.out.grown J (aM.out.ne_row aV.out (by decide))); have bU := ak (bC.out.grown J (bC.out.ne_row aV.out (by decide))); have bb := ak ((nO aV.out j HJL.out ((m : Int) - 1)).1); have bp := ak (Kd.R_grown bw.out J (fun k_ dc => dc)); have bN := ak (Kd.R_over bS.out aV.out (by decide) J); have ao := ak (ag.out.grown J ag.out.size (by intro k hk; cases hk; exact Nat.le_trans vT.out (Kd.R_base aV.out gs rfl))); rw [bY] at bb; clear bY J aM bC aV bw bS ag rZ vC kr
     rw [HST.out] at bb
     go_roundw
     case rel => exact ⟨j + 1, by omega, by go_num, aj, bU, bb, bp, bN, ao⟩
     case measure => simp [intOf]; omega
    ·have HST := ak (hsm (by unfold lK; rw [if_neg hgt]))
     clear hcl hst hsm hms hm
     go_wp2_with fail
     go_roundw
     case rel => exact ⟨j + 1, by omega, by go_num, aM, bC, ⟨by rw [HST.out]; exact aV.out⟩, bw, bS, ag⟩
     case measure => simp [intOf]; omega
   ·obtain rfl : j = 64 := by omega
    rw [show ((64 : Nat) : Int) = (64 : Int) from rfl]
    have hkb : decide ((64 : Int) < (b.slots.length : Int)) = false := by rw [HL.out]; decide
    have hall := C8 k b.slots
    rw [HL.out] at hall
    rw [hall] at aV
    have HSN := ak (show b.slots.length = (b.slots.map (lK k)).length by rw [List.length_map])
    clear hall
    go_wp2_with (first
     | ((with_reducible refine av (N := 39) rfl ?_); go_loud (refine az rfl 62 (.tmp 2) rfl gX rfl _ _ _ aM.out Try.underlying62 rfl 5 (by kernel_rfl) rfl ?_))
     | (go_loud (refine aK rfl 62 (.tmp 4) (.tmp 39) rfl gZ (dj b.addr b.aff (.slice (some ⟨gs, 0, none⟩) b.slots.length cs) (.slice Af b.free.length cf) (.slice AM M1.length cM)) rfl rfl 62 _ bC.out 5 (by kernel_rfl) rfl rfl (dM _ _ rfl rfl rfl) ?_; intro W1 aa J; have aj := gn aM aG J; have bU := ak (aa); have bb := gr aV bC J; have bp := gr bw bC J; have bN := gr bS bC J; have ao := gb ag cb J; clear aa J aM bC aV bw bS ag)))
    refine bodyPost_ret (results_cell_row rfl _ _ gZ 62 _ (0, 0) _ rfl bU.out Try.underlying62 rfl (by kernel_rfl)) rfl ⟨_, rfl, ⟨_, _, _, rfl, ?_, ?_, ?_⟩, ao.out⟩
    ·exact Kd.R_lower (Kd.R_mono bb.out (fun _ _ => trivial)) bP.out
    ·exact Kd.R_lower (Kd.R_mono bp.out (fun _ _ => trivial)) bP.out
    ·show Kd.R _ _ _ _ _ _ ((b.attrs.take k ++ b.attrs.drop (k + 1)).map vc)
     rw [← BZ.out]
     exact Kd.R_lower bN.out bP.out
 ·have h_ := HDR.out
  rw [if_neg hne] at h_
  have e_ : (some (⟨ga, 0, none⟩ : Addr)).map (fun x => x.add ((k + 1) * ib.sz)) = some ⟨ga, (k + 1) * 2, none⟩ := by
   rw [Option.map_some, add_plain]
   rfl
  rw [e_] at h_
  clear e_
  have KT := ak h_
  clear h_
  refine dd (n := 12) (S := fun w' => w'.cell? ⟨gX, 4, none⟩ = some (.slice (some ⟨ga, 0, none⟩) M.length ca)) (ds := [11]) #[false, false, false, false, false, false, false, false, false, false, false, false] (by kernel_rfl) rfl rfl (bc.out.cell 4 _ rfl) (fun hHeld => ?_); refine bQ p8.tab2 p8.bits2 (fun ae bA => ?_)
  refine pu 0 ae.out ?_
  refine tk 1 ae.out bA.out hHeld ?_
  refine pu 2 ae.out ?_
  refine pu 3 ae.out ?_
  refine pu 4 ae.out ?_
  refine tk 5 ae.out bA.out hHeld ?_
  refine pu 6 ae.out ?_
  refine pu 7 ae.out ?_
  refine pu 8 ae.out ?_
  refine on 9 ae.out (fun K hK => ?_)
  refine Kd.R_append_rows_step ib (Rr := ib.K _) (w0 := W4.drew) b1 (by rfl) (.tmp 12) (.tmp 17) 49 76 (.agg #[.string ⟨#[]⟩, .string ⟨#[]⟩]) 32 rfl Try.underlying49 yh rfl (by decide) (by omega) (.slice (some ⟨ga, 0, none⟩) k ca) (M.take k) (M.drop (k + 1)) (some ⟨ga, (k + 1) * 2, none⟩) (M.length - (k + 1)) (ca - (k + 1)) (fun _ => True) (fun _ => False) rfl rfl HTK.out KT.out (fun x cs aa => by rw [yg aa]; exact AZ _ _ _ _) (fun _ h_ => h_.elim) (fun _ _ => trivial) (Below.refl _ _) cY.out (by rw [List.length_take]; omega) ?_
  intro v_ V1 aW I J fP
  replace J : W4.drew.grownBy V1 (Value.slice (some ⟨ga, 0, none⟩) M.length ca).ownBlock := J
  rw [← Mc.out] at aW
  have bO := ak (bj.out.trans (I.mono bP.out)); have bl := ak (bc.out.grown J (bc.out.ne_row cH.out (by decide))); have bW := ak (bI.out.grown J (bI.out.ne_row cH.out (by decide))); have cZ := ak (Kd.R_over cQ.out cH.out (by decide) J); have cU := ak (Kd.R_over cj.out cH.out (by decide) J); have dE := ak (aW); have dh := ak (Nat.le_trans cY.out J.size)
  obtain ⟨AM, cM, rfl⟩ := Kd.R_slice aW
  clear aW I J fP bj bc bI cQ cj cH cY
  refine kn hK (bl.out.cell 4 _ rfl) (fun hHeld => ?_)
  clear hK K
  refine pu 10 ae.out ?_
  refine vz (i := 11) (N := none) #[true, true, true, true, true, true, true, true, true, true, true, true] rfl rfl (oP ae.out (by kernel_rfl)) (by decide) (fun K hK => ?_)
  have Dz := bl.out.frozen 4; have oR := bl.out.cell 4 _ rfl
  refine qN (w1 := ?_) (by rfl) rfl ?_ ?_
  rotate_left
  ·go_simp
   rfl
  refine hK.out _ _ ?_
  clear hK K
  refine dn ae.out ?_
  clear Dz oR hHeld
  generalize bY : V1.setCell ⟨gX, 4, none⟩ (.slice AM M1.length cM) = W7; have J : V1.grownBy W7 (some gX) := (by rw [← bY]; exact bs _ _ _ _); have ew := gb bO cg J; have dI := ak (bl.out.set 4 (.slice AM M1.length cM)); have dz := gm bW aG J; have gE := gr cZ bl J; have fu := gr cU bl J; have ky := gr dE bl J; have lf := ak (Nat.le_trans dh.out J.size); rw [bY] at dI; clear bY J bO bl bW cZ cU dE dh
  have vT := bP
  have kr := dI.out.cell 2 _ rfl
  go_wp2_with fail
  clear kr
  go_loopw [5, 6, 23] (fun _ _ u W => ∃ j : Nat, j ≤ 64 ∧ u = .int .i64 j ∧ Aside0 (aH W gX (dj b.addr b.aff (.slice (some ⟨gs, 0, none⟩) b.slots.length cs) (.slice Af b.free.length cf) (.slice AM M1.length cM)) 62) ∧ Aside0 (aH W gZ dH 62) ∧ Aside0 (Kd.R (Kd.int .i64) 3 W b1 (fun k => some k ≠ (Value.slice Af b.free.length cf).ownBlock) (.slice (some ⟨gs, 0, none⟩) b.slots.length cs) (nw k b.slots j)) ∧ Aside0 (Kd.R (Kd.int .i64) 3 W b1 (fun k => some k ≠ (Value.slice (some ⟨gs, 0, none⟩) b.slots.length cs).ownBlock) (.slice Af b.free.length cf) b.free) ∧ Aside0 (Kd.R ib 76 W b1 (fun _ => True) (.slice AM M1.length cM) M1) ∧ Aside0 (Below w.heap.size w W)) (fun _ _ u _ => 64 - (intOf u).toNat)
  case atStart => exact ⟨0, by omega, rfl, dI, dz, gE, fu, ky, ew⟩
  case round =>
   clear ew dI dz gE fu ky lf
   obtain ⟨j, hj, rfl, aM, bC, aV, bw, bS, ag⟩ := hrel
   obtain ⟨W, rfl⟩ : ∃ W : World, W = wr := ⟨_, rfl⟩
   by_cases hjn : j < 64
   ·have hkb : decide ((j : Int) < (b.slots.length : Int)) = true := by rw [HL.out]; simp; omega
    have hjl : j < b.slots.length := by rw [HL.out]; exact hjn
    have hcl := oE aV.out j hjl
    rw [C7 k b.slots j hjl] at hcl
    have hms := Tb.out _ (List.getElem_mem hjl)
    have hst := C6 k b.slots j hjl
    have hsm := BG k b.slots j hjl
    obtain ⟨m, hm⟩ : ∃ m : Nat, b.slots[j] = (m : Int) := ⟨(b.slots[j]).toNat, by omega⟩
    rw [hm] at hcl hms hst hsm
    have rZ := hcl.1
    have pj : ((j : Int) < (b.slots.length : Int)) = True := eq_true (by omega)
    have kr := aM.out.cell 2 _ rfl
    have r8 := hms.2
    by_cases hgt : (m : Int) > (k : Int) + 1
    ·have vC := hcl.2
     have HST := ak (show (nw k b.slots j).set j ((m : Int) - 1) = nw k b.slots (j + 1) by rw [← hst]; congr 1; unfold lK; rw [if_pos hgt])
     have HJL := ak hjl
     clear hcl hst hsm hms hm
     go_wp2_with fail
     generalize bY : W.setCell ⟨gs, j, none⟩ (.int .i64 ((m : Int) - 1)) = W1; have J : W.grownBy W1 (some gs) := (by rw [← bY]; exact (nO aV.out j HJL.out ((m : Int) - 1)).2); have aj := ak (aM.out.grown J (aM.out.ne_row aV.out (by decide))); have bU := ak (bC.out.grown J (bC.out.ne_row aV.out (by decide))); have bb := ak ((nO aV.out j HJL.out ((m : Int) - 1)).1); have bp := ak (Kd.R_grown bw.out J (fun k_ dc => dc)); have bN := ak (Kd.R_over bS.out aV.out (by decide) J); have ao := ak (ag.out.grown J ag.out.size (by intro k hk; cases hk; exact Nat.le_trans vT.out (Kd.R_base aV.out gs rfl))); rw [bY] at bb; clear bY J aM bC aV bw bS ag rZ vC kr
     rw [HST.out] at bb
     go_roundw
     case rel => exact ⟨j + 1, by omega, by go_num, aj, bU, bb, bp, bN, ao⟩
     case measure => simp [intOf]; omega
    ·have HST := ak (hsm (by unfold lK; rw [if_neg hgt]))
     clear hcl hst hsm hms hm
     go_wp2_with fail
     go_roundw
     case rel => exact ⟨j + 1, by omega, by go_num, aM, bC, ⟨by rw [HST.out]; exact aV.out⟩, bw, bS, ag⟩
     case measure => simp [intOf]; omega
   ·obtain rfl : j = 64 := by omega
    rw [show ((64 : Nat) : Int) = (64 : Int) from rfl]
    have hkb : decide ((64 : Int) < (b.slots.length : Int)) = false := by rw [HL.out]; decide
    have hall := C8 k b.slots
    rw [HL.out] at hall
    rw [hall] at aV
    have HSN := ak (show b.slots.length = (b.slots.map (lK k)).length by rw [List.length_map])
    clear hall
    go_wp2_with (first
     | ((with_reducible refine av (N := 39) rfl ?_); go_loud (refine az rfl 62 (.tmp 2) rfl gX rfl _ _ _ aM.out Try.underlying62 rfl 5 (by kernel_rfl) rfl ?_))
     | (go_loud (refine aK rfl 62 (.tmp 4) (.tmp 39) rfl gZ (dj b.addr b.aff (.slice (some ⟨gs, 0, none⟩) b.slots.length cs) (.slice Af b.free.length cf) (.slice AM M1.length cM)) rfl rfl 62 _ bC.out 5 (by kernel_rfl) rfl rfl (dM _ _ rfl rfl rfl) ?_; intro W1 aa J; have aj := gn aM aG J; have bU := ak (aa); have bb := gr aV bC J; have bp := gr bw bC J; have bN := gr bS bC J; have ao := gb ag cb J; clear aa J aM bC aV bw bS ag)))
    refine bodyPost_ret (results_cell_row rfl _ _ gZ 62 _ (0, 0) _ rfl bU.out Try.underlying62 rfl (by kernel_rfl)) rfl ⟨_, rfl, ⟨_, _, _, rfl, ?_, ?_, ?_⟩, ao.out⟩
    ·exact Kd.R_lower (Kd.R_mono bb.out (fun _ _ => trivial)) bP.out
    ·exact Kd.R_lower (Kd.R_mono bp.out (fun _ _ => trivial)) bP.out
    ·show Kd.R _ _ _ _ _ _ ((b.attrs.take k ++ b.attrs.drop (k + 1)).map vc)
     rw [← BZ.out]
     exact Kd.R_lower bN.out bP.out
end Go.Proofs.Ytemhalnhbgkbcaa.V
end

section
namespace Go.Proofs.Ytemhalnhbgkbcaa.V
attribute [local go_sem] ea dY eB ez dq dp dZ dX
def fM.f (bu : Int) (bE : ByteArray) (bM : List Int) (cN : List Int) (bL : List (S76)) (a1 : Int) : Option (Bool) := some (((a1 - (Int.tmod a1 64)) % 4294967296) == bu)
set_option maxHeartbeats 8000000 in
set_option maxRecDepth 100000 in
theorem fM.calls (bu : Int) (bE : ByteArray) (fC : Option Addr) (fw : Nat) (bM : List Int) (fb : Option Addr) (e9 : Nat) (cN : List Int) (eP : Option Addr) (eI : Nat) (bL : List (S76)) (a1 : Int) (r : Bool) (w : World) (sV : Kd.C (Kd.int .i64) w fC bM.length bM) (ta : bM.length ≤ fw) (sU : Kd.C (Kd.int .i64) w fb cN.length cN) (sZ : cN.length ≤ e9) (sS : Kd.C ib w eP bL.length bL) (sY : bL.length ≤ eI) (h : fM.f bu bE bM cN bL a1 = some r) :
  Calls Try.prog 100 #[.agg #[.int .u32 bu, .string bE, .slice fC bM.length fw, .slice fb cN.length e9, .slice eP bL.length eI], .int .u32 a1] w fun e w' => e = .returned (.bool r) ∧ Below w.heap.size w w' := by
 have J5 := Try.underlying62
 have rh := ak sV
 have Ay := ak ta
 clear sV ta
 have xA := ak sU
 have Ax := ak sZ
 clear sU sZ
 have vQ := ak sS
 have Aw := ak sY
 clear sS sY
 have HB := ak (Below.refl w.heap.size w)
 have H : (some (((a1 - (Int.tmod a1 64)) % 4294967296) == bu)) = some r := h
 clear h
 obtain rfl := Option.some.inj H
 go_enter Try.func100, Try.ntmps100
 go_wp2_with (first | ((with_reducible refine av (N := 2) rfl ?_); refine fi ?hg (N := 2) ?hd (cs := #[.int .u32 bu, .string bE, .slice fC bM.length fw, .slice fb cN.length e9, .slice eP bL.length eI]) (t := 62) ?hr ?_; (case hd => rfl); (case hg => rfl); (case hr => first | (go_simp; done) | (go_simp; rfl)); intro nV hg w3 hbox hb; have bV := ak (bg (by repeat (first | (with_reducible first | exact HB.out | apply af | apply ab | apply ai) | exact HB.out)) hb); have b4 := ak (hbox); have df := ak ((by rw [hg]; exact (bf (by repeat (first | (with_reducible first | exact HB.out | apply af | apply ab | apply ai) | exact HB.out))) : w.heap.size ≤ nV)); have dP := ak ((by rw [hg]; exact (bf (by repeat (first | (with_reducible first | exact HB.out | apply af | apply ab | apply ai) | exact HB.out))) : w.heap.size ≤ nV)); clear HB; have HB := bV; have lh := b4; have Uk := df; have K0 := dP; clear bV b4 df dP; clear hb hbox hg; have XE : w3.cell? ⟨nV, 0, none⟩ = some (.int .u32 bu) := (aA lh.out 0).trans rfl; have XD : w3.cell? ⟨nV, 1, none⟩ = some (.string bE) := (aA lh.out 1).trans rfl; have XC : w3.cell? ⟨nV, 2, none⟩ = some (.slice fC bM.length fw) := (aA lh.out 2).trans rfl; have XB : w3.cell? ⟨nV, 3, none⟩ = some (.slice fb cN.length e9) := (aA lh.out 3).trans rfl; have XA : w3.cell? ⟨nV, 4, none⟩ = some (.slice eP bL.length eI) := (aA lh.out 4).trans rfl; have Xo := aq lh.out 0; have Xn := aq lh.out 1; have Xm := aq lh.out 2; have Xl := aq lh.out 3; have Xk := aq lh.out 4))
 go_ret
 exact ⟨by first | rfl | (simp [bz, bx] <;> rfl) | (simp [*, bz, bx] <;> rfl), by repeat (first | (with_reducible first | exact HB.out | apply af | apply ab | apply ai | refine aN ?_ K0.out) | exact HB.out)⟩
end Go.Proofs.Ytemhalnhbgkbcaa.V
end

