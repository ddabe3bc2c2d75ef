/- The law BlockPlays for every input: texts of ours, put together (part 10 of 17). No further condition. -/
import Derived.Test.YtemhalnhbgkbcaaCBlockPlaysx2
import Derived.Test.YtemhalnhbgkbcaaCBlockPlaysx6
import Derived.Test.YtemhalnhbgkbcaaCBlockPlaysx4
import Derived.Test.YtemhalnhbgkbcaaCBlockPlaysx3
import Derived.Test.YtemhalnhbgkbcaaCBlockPlaysx8
import Derived.Test.YtemhalnhbgkbcaaCBlockPlaysw1
import Derived.Outline
import Derived.Test.YtemhalnhbgkbcaaCBlockPlaysx5
import Derived.Test.YtemhalnhbgkbcaaCBlockPlaysx7
import Derived.ArgAppend
import Derived.Lib.SlBytesConst
set_option linter.unusedVariables false
set_option linter.unusedSimpArgs false
open Go.RowKit Go.Proofs.YtemhalnhbgkbcaaW.PrintWords Go.Proofs.YtemhalnhbgkbcaaW.PrintLast Go.Proofs.YtemhalnhbgkbcaaW.PrintMore Go.Proofs.Ytemhalnhbgkbcaa.Z
section
namespace Go.Proofs.Ytemhalnhbgkbcaa.V
theorem Sq (l : List Int) (hl : l.length ≤ 1000) : br.f (l.length + 5) l l = some true := by
 have key : ∀ (d i k : Nat), i + d = l.length → d < k → br.l0 k l l (l.length : Int) (i : Int) = some true := by
  intro d
  induction d with
  | zero =>
   intro i k hi hk
   obtain ⟨k, rfl⟩ : ∃ m, k = m + 1 := ⟨k - 1, by omega⟩
   rw [br.l0, if_neg (by omega)]
  | succ d ih =>
   intro i k hi hk
   obtain ⟨k, rfl⟩ : ∃ m, k = m + 1 := ⟨k - 1, by omega⟩
   have e := ih (i + 1) k (by omega) (by omega)
   rw [br.l0]
   simp only [show (i : Int) < (l.length : Int) by omega, show (0 : Int) ≤ (i : Int) by omega, if_true]
   rw [iC ((i : Int) + 1) (by omega) (by omega), show (i : Int) + 1 = ((i + 1 : Nat) : Int) by omega]
   simpa using e
 unfold br.f
 rw [if_pos rfl]
 exact key l.length 0 _ (by omega) (by omega)
theorem Sp (l : List At) (hl : l.length ≤ 1000) : cY.f (l.length + 5) l l = some true := by
 have key : ∀ (d i k : Nat), i + d = l.length → d < k → cY.l0 k l l (l.length : Int) (i : Int) = some true := by
  intro d
  induction d with
  | zero =>
   intro i k hi hk
   obtain ⟨k, rfl⟩ : ∃ m, k = m + 1 := ⟨k - 1, by omega⟩
   rw [cY.l0, if_neg (by omega)]
  | succ d ih =>
   intro i k hi hk
   obtain ⟨k, rfl⟩ : ∃ m, k = m + 1 := ⟨k - 1, by omega⟩
   have e := ih (i + 1) k (by omega) (by omega)
   rw [cY.l0]
   simp only [show (i : Int) < (l.length : Int) by omega, show (0 : Int) ≤ (i : Int) by omega, if_true]
   rw [iC ((i : Int) + 1) (by omega) (by omega), show (i : Int) + 1 = ((i + 1 : Nat) : Int) by omega]
   simpa using e
 unfold cY.f
 rw [if_pos rfl]
 exact key l.length 0 _ (by omega) (by omega)
set_option maxHeartbeats 4000000 in
set_option maxRecDepth 100000 in
theorem J1 (b : Bk) (hfl : b.free.length ≤ 1000) (hal : b.attrs.length ≤ 1000) (v v' : Value) (w : World) (h : jb w v b) (h' : jb w v' b) :
  Calls Try.prog 40 #[v, v'] w fun e w' => e = .returned (.bool true) ∧ Below w.heap.size w w' := by
 obtain ⟨A, c, A', c', rfl, hr⟩ := h
 obtain ⟨B, d, B', d', rfl, hq⟩ := h'
 have HL := ak hr.l64
 have HR := ak hr
 have HQ := ak hq
 have HE8 := ak (Sq b.free hfl)
 have HEA := ak (Sp b.attrs hal)
 have HLN := ak (show (Try.prog.info? 47).map (·.size) = some (b.slots.map (Value.int .u8)).length by rw [List.length_map, hr.l64]; kernel_rfl)
 have hEq := fun (d : Nat) (w : World) => yP (P := Try.prog) w .u8 d 47 5 64 Try.underlying47 Try.underlying5 Ld b.slots b.slots hr.l64 hr.l64
 simp only [beq_self_eq_true] at hEq
 clear hr hq hfl hal
 go_enter Try.func40, Try.ntmps40
 go_wp2_with (first
  | (refine aV rfl 57 (.tmp 0) rfl _ rfl ?_; intro g W1 hg hbx cI; have gl := ak hbx; have cG := ak cI; clear hbx cI hg)
  | (refine aV rfl 57 (.tmp 1) rfl _ rfl ?_; intro g' W2 hg' hbx' eX; have gD := ak (gl.out.below eX); have qT := ak hbx'; have jk := ak (cG.out.trans (eX.mono cG.out.size)); have h0 := gD.out.cell 0 _ rfl; have h0' := qT.out.cell 0 _ rfl; have h1 := gD.out.cell 1 _ rfl; have h1' := qT.out.cell 1 _ rfl; have Gb := gD.out.cell 66 _ (gF _ _ _ _ _ HL.out); have ah3 := qT.out.cell 66 _ (gF _ _ _ _ _ HL.out); clear hbx' eX hg' gl cG)
  | ((with_reducible refine aJ (N := 19) rfl ?_); refine fk (by rfl) ?_; refine fN rfl 47 (.tmp 18) rfl g 2 rfl 57 _ (b.slots.map (Value.int .u8)) (.array 64 5) gD.out (mf _ _ _ _ _ HL.out) Try.underlying47 rfl HLN.out ?_)
  | ((with_reducible refine aJ (N := 21) rfl ?_); refine fk (by rfl) ?_; refine fN rfl 47 (.tmp 20) rfl g' 2 rfl 57 _ (b.slots.map (Value.int .u8)) (.array 64 5) qT.out (mf _ _ _ _ _ HL.out) Try.underlying47 rfl HLN.out ?_)
  | (go_at_call 77; refine (br.calls _ A c b.free B d b.free true _ (HR.out.below jk.out).fr HR.out.fc (HQ.out.below jk.out).fr HQ.out.fc HE8.out).mono ?_; rintro e W3 ⟨rfl, ⟨n3, rfl⟩⟩; have rj := (gD.out.below (ab (Below.refl _ _) n3)).cell 67 _ (gv _ _ _ _ _ HL.out); have ah2 := (qT.out.below (ab (Below.refl _ _) n3)).cell 67 _ (gv _ _ _ _ _ HL.out); have ja := ak (ab jk.out n3))
  | (go_at_call 78; refine (cY.calls _ A' c' b.attrs B' d' b.attrs true _ (HR.out.below ja.out).ar HR.out.ac (HQ.out.below ja.out).ar HQ.out.ac HEA.out).mono ?_; rintro e W4 ⟨rfl, ⟨n4, rfl⟩⟩; have m0 := ak (ab ja.out n4)))
 go_ret
 exact ⟨rfl, by apply ab; exact jk.out⟩
end Go.Proofs.Ytemhalnhbgkbcaa.V
end

section
namespace Go.Proofs.Ytemhalnhbgkbcaa.V
attribute [local go_sem] dA dy ed ec cP cN dz dx
mutual
def bF.j0 : Nat → Int → Int → Bool → Option (List Int)
 | 0, _, _, _ => none
 | k + 1, x0, x1, yr => if yr = true then (some ([] : List Int)) else (if 0 ≤ x1 then (if (x1 : Int).toNat ≤ 281474976710656 then (bF.l0 k x0 (List.replicate (x1 : Int).toNat 0) (wrap64 (x1 - 1))) else (none)) else (none))
def bF.l0 : Nat → Int → List Int → Int → Option (List Int)
 | 0, _, _, _ => none
 | k + 1, x0, x5, x6 => if x6 ≥ 0 then (if 0 ≤ x6 then (if x6 < (x5.length : Int) then (bF.l0 k (IntKind.u64.wrap (Int.tdiv x0 256)) (x5.set (x6 : Int).toNat ((Int.tmod x0 256) % 256)) (wrap64 (x6 - 1))) else (none)) else (none)) else (some x5)
end
def bF.f (k : Nat) (a0 : Int) (a1 : Int) : Option (List Int) := if a1 < 1 then (bF.j0 k a0 a1 true) else (bF.j0 k a0 a1 (decide (a1 > 8)))
theorem bF.mono_l : ∀ k, (∀ y0 y1 y2, aC (bF.j0 k y0 y1 y2) (bF.j0 (k + 1) y0 y1 y2)) ∧ (∀ y0 y1 y2, aC (bF.l0 k y0 y1 y2) (bF.l0 (k + 1) y0 y1 y2))
 | 0 => ⟨fun _ _ _ r h => by simp [bF.j0] at h, fun _ _ _ r h => by simp [bF.l0] at h⟩
 | k + 1 => by
  obtain ⟨cE, gW⟩ := bF.mono_l k
  refine ⟨?_, ?_⟩
  ·intro y0 y1 y2
   unfold bF.j0
   repeat' first
   | (with_reducible exact cE _ _ _)
   | (with_reducible exact gW _ _ _)
   | (with_reducible exact aC.refl _)
   | (with_reducible exact aC.none _)
   | (with_reducible refine aC.ite ?_ ?_)
   | (with_reducible refine aC.bind ?_ (fun _ => ?_))
   | exact cE _ _ _
   | exact gW _ _ _
   | exact aC.none _
   | refine aC.ite ?_ ?_
   | refine aC.bind ?_ (fun _ => ?_)
  ·intro y0 y1 y2
   unfold bF.l0
   repeat' first
   | (with_reducible exact cE _ _ _)
   | (with_reducible exact gW _ _ _)
   | (with_reducible exact aC.refl _)
   | (with_reducible exact aC.none _)
   | (with_reducible refine aC.ite ?_ ?_)
   | (with_reducible refine aC.bind ?_ (fun _ => ?_))
   | exact cE _ _ _
   | exact gW _ _ _
   | exact aC.none _
   | refine aC.ite ?_ ?_
   | refine aC.bind ?_ (fun _ => ?_)
theorem bF.mono : ∀ a0 a1 k, aC (bF.f k a0 a1) (bF.f (k + 1) a0 a1) := by
 intro a0 a1 k
 obtain ⟨cE, gW⟩ := bF.mono_l k
 unfold bF.f
 repeat' first
   | (with_reducible exact cE _ _ _)
   | (with_reducible exact gW _ _ _)
   | (with_reducible exact aC.refl _)
   | (with_reducible exact aC.none _)
   | (with_reducible refine aC.ite ?_ ?_)
   | (with_reducible refine aC.bind ?_ (fun _ => ?_))
   | exact cE _ _ _
   | exact gW _ _ _
   | exact aC.none _
   | refine aC.ite ?_ ?_
   | refine aC.bind ?_ (fun _ => ?_)
set_option maxHeartbeats 8000000 in
set_option maxRecDepth 100000 in
theorem bF.calls (k : Nat) (a0 : Int) (a1 : Int) (r : List Int) (w : World) (h : bF.f k a0 a1 = some r) :
  Calls Try.prog 75 #[.int .u64 a0, .int .i64 a1] w fun e w' => ∃ m6 : Value, e = .returned (m6) ∧ Kd.R (Kd.int .u8) 5 w' w.heap.size (fun _ => True) m6 r ∧ Below w.heap.size w w' := by
 have HB := ak (Below.refl w.heap.size w)
 have H : (if a1 < 1 then (bF.j0 k a0 a1 true) else (bF.j0 k a0 a1 (decide (a1 > 8)))) = some r := h
 clear h
 have Fa := ak H
 clear H
 go_enter Try.func75, Try.ntmps75
 go_upto_region 1 with (fail)
 go_cut [12] (fun YV wc => ∃ (kq : Nat) (C1 : Bool), YV = .bool C1 ∧ Aside0 (bF.j0 kq a0 a1 C1 = some r) ∧ Aside0 (kq ≤ k) ∧ Aside0 (Below w.heap.size w wc))
 case first =>
  have H := Fa.out
  clear Fa
  by_cases c4 : a1 < 1
  ·rw [if_pos c4] at H
   have jG : decide (a1 < 1) = true := decide_eq_true c4
   clear c4
   (first | rw [jG] | (simp only [iT, jx]; rw [jG]) | skip)
   have H' := ak H
   clear H
   go_wp2
   go_meet
   case rel => exact ⟨_, (true), (by first | rfl | (simp; done) | (simp [*]; done)), H', ⟨by first | omega | exact Nat.le_refl _⟩, ⟨by repeat (first | (with_reducible first | exact HB.out | apply af | apply ab | apply ai) | exact HB.out)⟩⟩
  ·rw [if_neg c4] at H
   have jG : decide (a1 < 1) = false := decide_eq_false c4
   clear c4
   (first | rw [jG] | (simp only [iT, jx]; rw [jG]) | skip)
   have H' := ak H
   clear H
   go_wp2
   go_meet
   case rel => exact ⟨_, (decide (a1 > 8)), (by first | rfl | (simp; done) | (simp [*]; done)), H', ⟨by first | omega | exact Nat.le_refl _⟩, ⟨by repeat (first | (with_reducible first | exact HB.out | apply af | apply ab | apply ai) | exact HB.out)⟩⟩
 case rest =>
  clear Fa
  obtain ⟨kq, C1, rfl, HA, tX, HB⟩ := hcut
  cases kq with
  | zero => exact absurd HA.out (by simp [bF.j0])
  | succ Cp =>
   have H := HA.out
   clear HA
   simp only [bF.j0] at H
   by_cases c5 : C1 = true
   ·subst c5
    have H1 : (some ([] : List Int)) = some r := by rw [if_pos rfl] at H; exact H
    clear H
    have H := H1
    clear H1
    obtain rfl := Option.some.inj H
    go_wp2
    go_ret
    exact ⟨_, by first | rfl | (simp [bf, bd] <;> rfl) | (simp [*, bf, bd] <;> rfl), by first | exact Kd.R_nil _ _ _ _ _ | exact Kd.N_nil _ _ _ _ _ | exact Kd.V_nil _ _ _ _ _ | exact Kd.Q_nil _ _ _ _ _ | exact Kd.S_nil _ _ _ _ _, by repeat (first | (with_reducible first | exact HB.out | apply af | apply ab | apply ai) | exact HB.out)⟩
   ·replace c5 := Bool.eq_false_iff.mpr c5
    subst c5
    have H1 : (if 0 ≤ a1 then (if (a1 : Int).toNat ≤ 281474976710656 then (bF.l0 Cp a0 (List.replicate (a1 : Int).toNat 0) (wrap64 (a1 - 1))) else (none)) else (none)) = some r := by rw [if_neg (show ¬ (false = true) by decide)] at H; exact H
    clear H
    have H := H1
    clear H1
    by_cases c6 : 0 ≤ a1
    ·rw [if_pos c6] at H
     have oK := eq_true c6
     have Ra : decide (0 ≤ a1) = true := decide_eq_true c6
     clear c6
     by_cases c7 : (a1 : Int).toNat ≤ 281474976710656
     ·rw [if_pos c7] at H
      have lh := eq_true c7
      have Hr : decide ((a1 : Int).toNat ≤ 281474976710656) = true := decide_eq_true c7
      clear c7
      obtain ⟨Ii, vB⟩ : ∃ y_ : List Int, y_ = (List.replicate (a1 : Int).toNat 0) := ⟨_, rfl⟩
      replace H : (bF.l0 Cp a0 Ii (wrap64 (a1 - 1))) = some r := by first | (rw [vB]; with_reducible exact H) | (have fx := (Option.bind_some _ _).symm.trans H; rw [vB]; with_reducible exact fx) | (have fx := (Option.bind_some _ _).symm.trans H; with_reducible exact fx) | with_reducible exact H | (rw [vB]; exact H) | exact H
      have GD := ak vB
      clear vB
      have H' := ak H
      clear H
      go_wp2_with (first | ((with_reducible refine aJ (N := 14) rfl ?_); refine Kd.R_make (Kd.int .u8) _ 5 rfl (N := 14) rfl 48 _ _ rfl a1 rfl rfl Try.underlying48 (.int .u8 0) 1 C3 rfl (by decide) (by omega) 0 (ok := fun _ => True) (okp := fun _ => True) rfl (fun _ hk => hk) trivial (of_decide_eq_true (by first | (with_reducible assumption) | assumption)) (Nat.le_trans (Nat.mul_le_mul_right _ (of_decide_eq_true (by first | (with_reducible assumption) | assumption) : a1.toNat ≤ 281474976710656)) (by omega)) (Below.refl _ _) (Nat.le_refl _) ?_; intro P9 w8 fS hb J ry; clear J ry; (first | rw [← GD.out] at fS | (simp only [Int.reduceToNat] at fS; rw [← GD.out] at fS)); have bR := ak (Kd.R_lower fS (bo (by repeat (first | (with_reducible first | exact HB.out | apply af | apply ab | apply ai) | exact HB.out)))); have bX := ak (bA (by repeat (first | (with_reducible first | exact HB.out | apply af | apply ab | apply ai) | exact HB.out)) hb); clear HB; have PM := bR; have HB := bX; clear bR bX; clear hb fS))
      go_loopg [0, 6] Cp (fun kq v0 v6 w' => ∃ (n8 : Int) (wT : List Int) (mN : Int), v0 = .int .u64 n8 ∧ v6 = .int .i64 mN ∧ Aside0 (bF.l0 kq n8 wT mN = some r) ∧ Aside0 (kq ≤ Cp) ∧ Aside0 (Kd.R (Kd.int .u8) 5 w' w.heap.size (fun _ => True) P9 wT) ∧ Aside0 (Below w.heap.size w w'))
      case atStart => exact ⟨(a0), (Ii), (wrap64 (a1 - 1)), (by first | rfl | (simp; done) | (simp [*]; done)), (by first | rfl | (simp; done) | (simp [*]; done)), H', ⟨Nat.le_refl _⟩, ⟨by (with_reducible repeat (first | apply Kd.R_alloc | apply Kd.R_drewN | apply Kd.R_drew)); exact PM.out⟩, ⟨by repeat (first | (with_reducible first | exact HB.out | apply af | apply ab | apply ai) | exact HB.out)⟩⟩
      case round =>
       clear H'
       obtain ⟨n8, wT, mN, rfl, rfl, HA, lH, rh, HB⟩ := hrel
       cases gk with
       | zero => exact absurd HA.out (by simp [bF.l0])
       | succ k2 =>
        have H := HA.out
        clear HA
        simp only [bF.l0] at H
        by_cases c10 : mN ≥ 0
        ·rw [if_pos c10] at H
         have Hz : decide (0 ≤ mN) = true := decide_eq_true c10
         clear c10
         by_cases l7 : 0 ≤ mN
         ·rw [if_pos l7] at H
          have zO : decide (0 ≤ mN) = true := decide_eq_true l7
          clear l7
          by_cases mC : mN < (wT.length : Int)
          ·rw [if_pos mC] at H
           have C7 : decide (mN < (wT.length : Int)) = true := decide_eq_true mC
           clear mC
           obtain ⟨Dh, vA⟩ : ∃ y_ : List Int, y_ = (wT.set (mN : Int).toNat ((Int.tmod n8 256) % 256)) := ⟨_, rfl⟩
           replace H : (bF.l0 k2 (IntKind.u64.wrap (Int.tdiv n8 256)) Dh (wrap64 (mN - 1))) = some r := by first | (rw [vA]; with_reducible exact H) | (have fx := (Option.bind_some _ _).symm.trans H; rw [vA]; with_reducible exact fx) | (have fx := (Option.bind_some _ _).symm.trans H; with_reducible exact fx) | with_reducible exact H | (rw [vA]; exact H) | exact H
           have PE := ak vA
           clear vA
           have H' := ak H
           clear H
           have Qj : 0 ≤ (mN : Int) := of_decide_eq_true (by first | (with_reducible assumption) | assumption)
           have Qh : (mN : Int) < ((wT.length : Int) : Int) := of_decide_eq_true (by first | (with_reducible assumption) | assumption)
           obtain ⟨KC, uF, Hp, QS, Uw, ah4, RL⟩ := Kd.R_form rh.out (by omega)
           (first | cases Hp | (injection Hp with Lv ZQ ZR; (first | subst Lv | (injection Lv with Lv; subst Lv)); subst ZR; clear ZQ))
           have UW := ak QS
           have ah9 := ak RL
           clear QS Uw RL
           obtain ⟨Y3, Zr⟩ := Kd.R_celln 0 rh.out (mN : Int) Qj Qh
           replace Qj := eq_true Qj
           replace Qh := eq_true Qh
           have KX := Kd.R_putg rh.out (mN : Int) ((Int.tmod n8 256) % 256)
           go_wp2_with (first | ((with_reducible refine Hm (t := 5) (p := 26) rfl ?_); refine Fo (t := 5) (p := 26) (v := ?vo_w15) (w1 := (wr.setCell ⟨KC, (mN : Int).toNat, none⟩ (.int .u8 ((Int.tmod n8 256) % 256)))) ?hg ?ho ?hn ?hr ?_; (case ho => rfl); (case hg => rfl); (case hn => rfl); (case hr => first | (go_simp; done) | (go_simp; rfl)); intro zp hw; have hg : wr.grownBy zp (some KC) := (by rw [hw]; exact KX.2); have TL : Kd.R (Kd.int .u8) 5 zp w.heap.size (fun _ => True) (.slice (some ⟨KC, 0, none⟩) wT.length uF) Dh := (by rw [hw, PE.out]; exact KX.1); clear KX; have bR := ak (TL); have bX := ak ((by rw [hw]; exact aD (HB.out) UW.out : Below w.heap.size w zp)); clear rh; clear HB; have rh := bR; have HB := bX; clear bR bX; clear hg hw TL))
           go_roundg k2
           case measure => have := tX.out; have := lH.out; omega
           case rel => exact ⟨(IntKind.u64.wrap (Int.tdiv n8 256)), (Dh), (wrap64 (mN - 1)), (by first | rfl | (simp; done) | (simp [*]; done)), (by first | rfl | (simp; done) | (simp [*]; done)), H', ⟨by have := tX.out; have := lH.out; omega⟩, ⟨by (with_reducible repeat (first | apply Kd.R_alloc | apply Kd.R_drewN | apply Kd.R_drew)); exact rh.out⟩, ⟨by repeat (first | (with_reducible first | exact HB.out | apply af | apply ab | apply ai) | exact HB.out)⟩⟩
          ·rw [if_neg mC] at H
           exact absurd H (by simp)
         ·rw [if_neg l7] at H
          exact absurd H (by simp)
        ·rw [if_neg c10] at H
         have Hz : decide (0 ≤ mN) = false := decide_eq_false c10
         clear c10
         obtain rfl := Option.some.inj H
         go_wp2
         go_ret
         exact ⟨_, by first | rfl | (simp [bf, bd] <;> rfl) | (simp [*, bf, bd] <;> rfl), by (with_reducible repeat (first | apply Kd.R_alloc | apply Kd.R_drewN | apply Kd.R_drew)); exact rh.out, by repeat (first | (with_reducible first | exact HB.out | apply af | apply ab | apply ai) | exact HB.out)⟩
     ·rw [if_neg c7] at H
      exact absurd H (by simp)
    ·rw [if_neg c6] at H
     exact absurd H (by simp)
end Go.Proofs.Ytemhalnhbgkbcaa.V
end

section
namespace Go.Proofs.Ytemhalnhbgkbcaa.V
attribute [local go_sem] dA dy ed ec cP cN dz dx
def ri.f (a0 : ByteArray) : Option (List Int) := (some (([((a0.size : Int)) % 256] : List Int) : List Int)).bind fun m4 => (if m4.length + a0.size < 140737488355328 then (some (m4 ++ bytesOf a0)) else (none))
set_option maxHeartbeats 8000000 in
set_option maxRecDepth 100000 in
theorem ri.calls (a0 : ByteArray) (r : List Int) (w : World) (h : ri.f a0 = some r) :
  Calls Try.prog 76 #[.string a0] w fun e w' => ∃ m6 : Value, e = .returned (m6) ∧ Kd.R (Kd.int .u8) 5 w' w.heap.size (fun _ => True) m6 r ∧ Below w.heap.size w w' := by
 have HB := ak (Below.refl w.heap.size w)
 have H : ((some (([((a0.size : Int)) % 256] : List Int) : List Int)).bind fun m4 => (if m4.length + a0.size < 140737488355328 then (some (m4 ++ bytesOf a0)) else (none))) = some r := h
 clear h
 obtain ⟨m4, vz⟩ : ∃ y_ : List Int, y_ = (([((a0.size : Int)) % 256] : List Int)) := ⟨_, rfl⟩
 replace H : (if m4.length + a0.size < 140737488355328 then (some (m4 ++ bytesOf a0)) else (none)) = some r := by first | (rw [vz]; with_reducible exact H) | (have fx := (Option.bind_some _ _).symm.trans H; rw [vz]; with_reducible exact fx) | (have fx := (Option.bind_some _ _).symm.trans H; with_reducible exact fx) | with_reducible exact H | (rw [vz]; exact H) | exact H
 have GC := ak vz
 clear vz
 by_cases c2 : m4.length + a0.size < 140737488355328
 ·rw [if_pos c2] at H
  have KV := ak c2
  clear c2
  obtain ⟨Ih, vy⟩ : ∃ y_ : List Int, y_ = (m4 ++ bytesOf a0) := ⟨_, rfl⟩
  replace H : (some Ih) = some r := by first | (rw [vy]; with_reducible exact H) | (have fx := (Option.bind_some _ _).symm.trans H; rw [vy]; with_reducible exact fx) | (have fx := (Option.bind_some _ _).symm.trans H; with_reducible exact fx) | with_reducible exact H | (rw [vy]; exact H) | exact H
  have PD := ak vy
  clear vy
  obtain rfl := Option.some.inj H
  go_enter Try.func76, Try.ntmps76
  go_wp2_with (first | ((with_reducible refine aJ (N := 6) rfl ?_); refine Kd.R_lit (Kd.int .u8) _ 5 ?hg (N := 6) ?hd (xs := ([((a0.size : Int)) % 256] : List Int)) (inner := [.int .u8 (((a0.size : Int)) % 256)]) (ok := fun _ => True) (okp := fun _ => True) ?hr ?hp (fun _ hk => hk) trivial (Below.refl _ _) (Nat.le_refl _) (by simp) ?_; (case hd => rfl); (case hg => rfl); (case hr => first | (go_simp; done) | (go_simp; rfl)); (case hp => exact (dF.one (show Kd.M (Kd.int .u8) _ _ _ (((a0.size : Int)) % 256) [.int .u8 (((a0.size : Int)) % 256)] from rfl) (dF.none _ _))); intro P8 w3 Jf hb J ry; clear J ry; (first | rw [← GC.out] at Jf | (simp only [Int.reduceToNat] at Jf; rw [← GC.out] at Jf)); have bR := ak (Kd.R_lower Jf (bo (by repeat (first | (with_reducible first | exact HB.out | apply af | apply ab | apply ai) | exact HB.out)))); have bX := ak (bA (by repeat (first | (with_reducible first | exact HB.out | apply af | apply ab | apply ai) | exact HB.out)) hb); clear HB; have GK := bR; have HB := bX; clear bR bX; clear hb Jf) | (at_builtin; refine si (w0 := w) w.heap.size rfl (.tmp 6) _ 48 9 5 rfl Try.underlying48 Try.underlying9 C3 P8 m4 a0 rfl rfl ?aO ?aB ?aS ?aL ?_; (case aB => exact (by repeat (first | (with_reducible first | exact HB.out | apply af | apply ab | apply ai) | exact HB.out))); (case aO => exact (Kd.own_of_R (by (with_reducible repeat (first | apply Kd.R_alloc | apply Kd.R_drewN | apply Kd.R_drew)); exact GK.out))); (case aS => exact (bo (by repeat (first | (with_reducible first | exact HB.out | apply af | apply ab | apply ai) | exact HB.out)))); (case aL => have := KV.out; omega); intro P7 w5 tp hb hg; have ho := Kd.R_of_own (h1 := fun _ => rfl) (ok := fun _ => True) tp (fun _ _ => trivial); clear tp; have hat := True.intro; rw [← PD.out] at ho; change Kd.R (Kd.int .u8) 5 w5 w.heap.size (fun _ => True) P7 Ih at ho; have bR := ak (hb); have bX := ak (ho); clear HB; clear GK; have HB := bR; have PL := bX; clear bR bX; clear ho hb hg hat))
  go_ret
  exact ⟨_, by first | rfl | (simp [bf, bd] <;> rfl) | (simp [*, bf, bd] <;> rfl), by (with_reducible repeat (first | apply Kd.R_alloc | apply Kd.R_drewN | apply Kd.R_drew)); exact PL.out, by repeat (first | (with_reducible first | exact HB.out | apply af | apply ab | apply ai) | exact HB.out)⟩
 ·rw [if_neg c2] at H
  exact absurd H (by simp)
end Go.Proofs.Ytemhalnhbgkbcaa.V
end

section
namespace Go.Proofs.Ytemhalnhbgkbcaa.V
attribute [local go_sem] dA dy ed ec cP cN dz dx
def bx.f (k : Nat) (a0 : ByteArray) : Option (Bool) := if a0.toList = ([] : List UInt8) then (some true) else ((aw.f k a0).bind fun uQ => (some uQ))
theorem bx.mono : ∀ a0 k, aC (bx.f k a0) (bx.f (k + 1) a0) := by
 intro a0 k
 unfold bx.f
 repeat' first
   | (with_reducible exact aw.mono _ _)
   | (with_reducible exact aC.refl _)
   | (with_reducible exact aC.none _)
   | (with_reducible refine aC.ite ?_ ?_)
   | (with_reducible refine aC.bind ?_ (fun _ => ?_))
   | exact aw.mono _ _
   | exact aC.none _
   | refine aC.ite ?_ ?_
   | refine aC.bind ?_ (fun _ => ?_)
set_option maxHeartbeats 8000000 in
set_option maxRecDepth 100000 in
theorem bx.calls (k : Nat) (a0 : ByteArray) (r : Bool) (w : World) (h : bx.f k a0 = some r) :
  Calls Try.prog 42 #[.string a0] w fun e w' => e = .returned (.bool r) ∧ Drawn0 w w' := by
 have H : (if a0.toList = ([] : List UInt8) then (some true) else ((aw.f k a0).bind fun uQ => (some uQ))) = some r := h
 clear h
 by_cases c2 : a0.toList = ([] : List UInt8)
 ·rw [if_pos c2] at H
  have lW : (a0.toList == ([] : List UInt8)) = true := beq_iff_eq.mpr c2
  have uG : (a0.toList != ([] : List UInt8)) = false := bne_eq_false_iff_eq.mpr c2
  clear c2
  obtain rfl := Option.some.inj H
  go_enter Try.func42, Try.ntmps42
  go_wp2
  go_ret
  exact ⟨by first | rfl | (simp; done) | (simp [*]; done), by repeat (first | exact Drawn0.refl _ | apply Drawn0.step)⟩
 ·rw [if_neg c2] at H
  have lW : (a0.toList == ([] : List UInt8)) = false := beq_eq_false_iff_ne.mpr c2
  have uG : (a0.toList != ([] : List UInt8)) = true := bne_iff_ne.mpr c2
  replace H := Option.bind_eq_some_iff.mp H
  obtain ⟨uQ, nJ, H⟩ := H
  replace H : (some uQ) = some r := H
  have A3 := ak nJ
  clear nJ
  obtain rfl := Option.some.inj H
  go_enter Try.func42, Try.ntmps42
  go_wp2_with (first | (go_at_call 81; (with_reducible refine (aw.calls k a0 uQ _ A3.out).mono ?_); rintro e w' ⟨rfl, ⟨nd, rfl⟩⟩))
  go_ret
  exact ⟨by first | rfl | (simp; done) | (simp [*]; done), by repeat (first | exact Drawn0.refl _ | apply Drawn0.step)⟩
end Go.Proofs.Ytemhalnhbgkbcaa.V
end

section
namespace Go.Proofs.Ytemhalnhbgkbcaa.V
attribute [local go_sem] dA dy ed ec cP cN dz dx
def bN.f (k : Nat) (a6 : ByteArray) (a8 : ByteArray) : Option (Bool) := (aw.f k a6).bind fun uP => (if uP = true then ((aw.f k a8).bind fun oh => (some oh)) else (some false))
theorem bN.mono : ∀ a0 a1 k, aC (bN.f k a0 a1) (bN.f (k + 1) a0 a1) := by
 intro a0 a1 k
 unfold bN.f
 repeat' first
   | (with_reducible exact aw.mono _ _)
   | (with_reducible exact aC.refl _)
   | (with_reducible exact aC.none _)
   | (with_reducible refine aC.ite ?_ ?_)
   | (with_reducible refine aC.bind ?_ (fun _ => ?_))
   | exact aw.mono _ _
   | exact aC.none _
   | refine aC.ite ?_ ?_
   | refine aC.bind ?_ (fun _ => ?_)
set_option maxHeartbeats 8000000 in
set_option maxRecDepth 100000 in
theorem bN.calls (k : Nat) (a6 : ByteArray) (a8 : ByteArray) (r : Bool) (w : World) (h : bN.f k a6 a8 = some r) :
  Calls Try.prog 60 #[.agg #[.string a6, .string a8]] w fun e w' => e = .returned (.bool r) ∧ Below w.heap.size w w' := by
 have Kr := Try.underlying76
 have HB := ak (Below.refl w.heap.size w)
 have H : ((aw.f k a6).bind fun uP => (if uP = true then ((aw.f k a8).bind fun oh => (some oh)) else (some false))) = some r := h
 clear h
 replace H := Option.bind_eq_some_iff.mp H
 obtain ⟨uP, CI, H⟩ := H
 replace H : (if uP = true then ((aw.f k a8).bind fun oh => (some oh)) else (some false)) = some r := H
 have A2 := ak CI
 clear CI
 by_cases c3 : uP = true
 ·subst c3
  have H1 : ((aw.f k a8).bind fun oh => (some oh)) = some r := by rw [if_pos rfl] at H; exact H
  clear H
  have H := H1
  clear H1
  replace H := Option.bind_eq_some_iff.mp H
  obtain ⟨oh, xW, H⟩ := H
  replace H : (some oh) = some r := H
  have A4 := ak xW
  clear xW
  obtain rfl := Option.some.inj H
  go_enter Try.func60, Try.ntmps60
  go_wp2_with (first | ((with_reducible refine aJ (N := 1) rfl ?_); refine eY ?hg (N := 1) ?hd (cs := #[.string a6, .string a8]) (t := 76) ?hr ?_; (case hd => rfl); (case hg => rfl); (case hr => first | (go_simp; done) | (go_simp; rfl)); intro nM hg w5 hbox hb; have bR := ak (bA (by repeat (first | (with_reducible first | exact HB.out | apply af | apply ab | apply ai) | exact HB.out)) hb); have bX := ak (hbox); have dh := ak ((by rw [hg]; exact (bo (by repeat (first | (with_reducible first | exact HB.out | apply af | apply ab | apply ai) | exact HB.out))) : w.heap.size ≤ nM)); have dX := ak ((by rw [hg]; exact (bo (by repeat (first | (with_reducible first | exact HB.out | apply af | apply ab | apply ai) | exact HB.out))) : w.heap.size ≤ nM)); clear HB; have HB := bR; have nZ := bX; have PT := dh; have Ca := dX; clear bR bX dh dX; clear hb hbox hg; have Ef : w5.cell? ⟨nM, 0, none⟩ = some (.string a6) := (al nZ.out 0).trans rfl; have Ee : w5.cell? ⟨nM, 1, none⟩ = some (.string a8) := (al nZ.out 1).trans rfl; have D8 := aj nZ.out 0; have D7 := aj nZ.out 1) | ((with_reducible refine dp (f := 81) rfl ?_); refine fQ (some 5) rfl rfl Try.func81 (by kernel_rfl) rfl #[.string a6] rfl (by (try simp only [List.map_toArray, List.map_cons, List.map_nil]); first | done | rfl | (simp only [List.length_drop, List.length_take]; rfl)) ?_; (with_reducible refine (aw.calls k a6 true _ A2.out).mono ?_); rintro e w' ⟨rfl, ⟨nd, rfl⟩⟩; refine ⟨_, rfl, ?_⟩) | (go_at_call 81; (with_reducible refine (aw.calls k a8 oh _ A4.out).mono ?_); rintro e w' ⟨rfl, ⟨nd, rfl⟩⟩))
  go_ret
  exact ⟨by first | rfl | (simp [bf, bd] <;> rfl) | (simp [*, bf, bd] <;> rfl), by repeat (first | (with_reducible first | exact HB.out | apply af | apply ab | apply ai | refine aD ?_ Ca.out) | exact HB.out)⟩
 ·replace c3 := Bool.eq_false_iff.mpr c3
  subst c3
  have H1 : (some false) = some r := by rw [if_neg (show ¬ (false = true) by decide)] at H; exact H
  clear H
  have H := H1
  clear H1
  obtain rfl := Option.some.inj H
  go_enter Try.func60, Try.ntmps60
  go_wp2_with (first | ((with_reducible refine aJ (N := 1) rfl ?_); refine eY ?hg (N := 1) ?hd (cs := #[.string a6, .string a8]) (t := 76) ?hr ?_; (case hd => rfl); (case hg => rfl); (case hr => first | (go_simp; done) | (go_simp; rfl)); intro nM hg w7 hbox hb; have bR := ak (bA (by repeat (first | (with_reducible first | exact HB.out | apply af | apply ab | apply ai) | exact HB.out)) hb); have bX := ak (hbox); have dh := ak ((by rw [hg]; exact (bo (by repeat (first | (with_reducible first | exact HB.out | apply af | apply ab | apply ai) | exact HB.out))) : w.heap.size ≤ nM)); have dX := ak ((by rw [hg]; exact (bo (by repeat (first | (with_reducible first | exact HB.out | apply af | apply ab | apply ai) | exact HB.out))) : w.heap.size ≤ nM)); clear HB; have HB := bR; have nZ := bX; have PT := dh; have Ca := dX; clear bR bX dh dX; clear hb hbox hg; have Ed : w7.cell? ⟨nM, 0, none⟩ = some (.string a6) := (al nZ.out 0).trans rfl; have Ec : w7.cell? ⟨nM, 1, none⟩ = some (.string a8) := (al nZ.out 1).trans rfl; have D6 := aj nZ.out 0; have D5 := aj nZ.out 1) | ((with_reducible refine dp (f := 81) rfl ?_); refine fQ (some 5) rfl rfl Try.func81 (by kernel_rfl) rfl #[.string a6] rfl (by (try simp only [List.map_toArray, List.map_cons, List.map_nil]); first | done | rfl | (simp only [List.length_drop, List.length_take]; rfl)) ?_; (with_reducible refine (aw.calls k a6 false _ A2.out).mono ?_); rintro e w' ⟨rfl, ⟨nd, rfl⟩⟩; refine ⟨_, rfl, ?_⟩))
  go_ret
  exact ⟨by first | rfl | (simp [bf, bd] <;> rfl) | (simp [*, bf, bd] <;> rfl), by repeat (first | (with_reducible first | exact HB.out | apply af | apply ab | apply ai | refine aD ?_ Ca.out) | exact HB.out)⟩
end Go.Proofs.Ytemhalnhbgkbcaa.V
end

section
namespace Go.Proofs.Ytemhalnhbgkbcaa.V
attribute [local go_sem] dA dy ed ec cP cN dz dx
def aM.l0 : Nat → Int → Int → List Int → Int → Int → Option (Int)
 | 0, _, _, _, _, _ => none
 | k + 1, x1, x5, x8, x9, FT => if FT < x9 then (if 0 ≤ FT then (if FT < (x8.length : Int) then (if (rd x8 FT) = x1 then (aM.l0 k x1 (wrap64 (x5 + 1)) x8 x9 (wrap64 (FT + 1))) else (aM.l0 k x1 x5 x8 x9 (wrap64 (FT + 1)))) else (none)) else (none)) else (some x5)
def aM.f (k : Nat) (l0 : List Int) (a1 : Int) : Option (Int) := aM.l0 k a1 0 l0 (l0.length : Int) 0
theorem aM.mono_l : ∀ k, (∀ y0 y1 y2 y3 y4, aC (aM.l0 k y0 y1 y2 y3 y4) (aM.l0 (k + 1) y0 y1 y2 y3 y4))
 | 0 => fun _ _ _ _ _ r h => by simp [aM.l0] at h
 | k + 1 => by
  have cE := aM.mono_l k
  ·intro y0 y1 y2 y3 y4
   unfold aM.l0
   repeat' first
   | (with_reducible exact cE _ _ _ _ _)
   | (with_reducible exact aC.refl _)
   | (with_reducible exact aC.none _)
   | (with_reducible refine aC.ite ?_ ?_)
   | (with_reducible refine aC.bind ?_ (fun _ => ?_))
   | exact cE _ _ _ _ _
   | exact aC.none _
   | refine aC.ite ?_ ?_
   | refine aC.bind ?_ (fun _ => ?_)
theorem aM.mono : ∀ a0 a1 k, aC (aM.f k a0 a1) (aM.f (k + 1) a0 a1) := by
 intro a0 a1 k
 have cE := aM.mono_l k
 unfold aM.f
 repeat' first
   | (with_reducible exact cE _ _ _ _ _)
   | (with_reducible exact aC.refl _)
   | (with_reducible exact aC.none _)
   | (with_reducible refine aC.ite ?_ ?_)
   | (with_reducible refine aC.bind ?_ (fun _ => ?_))
   | exact cE _ _ _ _ _
   | exact aC.none _
   | refine aC.ite ?_ ?_
   | refine aC.bind ?_ (fun _ => ?_)
set_option maxHeartbeats 8000000 in
set_option maxRecDepth 100000 in
theorem aM.calls (k : Nat) (A0 : Option Addr) (c0 : Nat) (l0 : List Int) (a1 : Int) (r : Int) (w : World) (lM : Kd.C (Kd.int .i64) w A0 l0.length l0) (jC : l0.length ≤ c0) (h : aM.f k l0 a1 = some r) :
  Calls Try.prog 68 #[.slice A0 l0.length c0, .int .i64 a1] w fun e w' => e = .returned (.int .i64 r) ∧ Drawn0 w w' := by
 have n7 := ak lM
 have xT := ak jC
 clear lM jC
 have H : (aM.l0 k a1 0 l0 (l0.length : Int) 0) = some r := h
 clear h
 have H' := ak H
 clear H
 go_enter Try.func68, Try.ntmps68
 go_wp2
 go_loopg [5, 10] k (fun kq v5 v10 w' => ∃ (js : Int) (je : Int), v5 = .int .i64 js ∧ v10 = .int .i64 je ∧ Aside0 (aM.l0 kq a1 js l0 (l0.length : Int) je = some r) ∧ Aside0 (kq ≤ k) ∧ Drawn0 w w')
 case atStart => exact ⟨(0), (0), (by first | rfl | (simp; done) | (simp [*]; done)), (by first | rfl | (simp; done) | (simp [*]; done)), H', ⟨Nat.le_refl _⟩, by repeat (first | exact Drawn0.refl _ | apply Drawn0.step)⟩
 case round =>
  clear H'
  obtain ⟨js, je, rfl, rfl, HA, dq, ⟨m1, rfl⟩⟩ := hrel
  cases gk with
  | zero => exact absurd HA.out (by simp [aM.l0])
  | succ k1 =>
   have H := HA.out
   clear HA
   simp only [aM.l0] at H
   by_cases c3 : je < (l0.length : Int)
   ·rw [if_pos c3] at H
    have kT : decide (je < (l0.length : Int)) = true := decide_eq_true c3
    clear c3
    by_cases c4 : 0 ≤ je
    ·rw [if_pos c4] at H
     have jG : decide (0 ≤ je) = true := decide_eq_true c4
     clear c4
     by_cases c5 : je < (l0.length : Int)
     ·rw [if_pos c5] at H
      have zb : decide (je < (l0.length : Int)) = true := decide_eq_true c5
      clear c5
      by_cases c6 : (rd l0 je) = a1
      ·rw [if_pos c6] at H
       have oK : ((rd l0 je) == a1) = true := beq_iff_eq.mpr c6
       have Ra : ((rd l0 je) != a1) = false := bne_eq_false_iff_eq.mpr c6
       clear c6
       have H' := ak H
       clear H
       have so : 0 ≤ (je : Int) := of_decide_eq_true (by first | (with_reducible assumption) | assumption)
       have sd : je < (l0.length : Int) := of_decide_eq_true (by first | (with_reducible assumption) | assumption)
       obtain ⟨Pw, Ex, Jb⟩ := Kd.at_int n7.out je so sd
       cases Ex
       replace so := eq_true so
       replace sd := eq_true sd
       go_wp2
       go_roundg k1
       case measure => have := dq.out; omega
       case rel => exact ⟨(wrap64 (js + 1)), (wrap64 (je + 1)), (by first | rfl | (simp; done) | (simp [*]; done)), (by first | rfl | (simp; done) | (simp [*]; done)), H', ⟨by have := dq.out; omega⟩, by repeat (first | exact Drawn0.refl _ | apply Drawn0.step)⟩
      ·rw [if_neg c6] at H
       have oK : ((rd l0 je) == a1) = false := beq_eq_false_iff_ne.mpr c6
       have Ra : ((rd l0 je) != a1) = true := bne_iff_ne.mpr c6
       have H' := ak H
       clear H
       have so : 0 ≤ (je : Int) := of_decide_eq_true (by first | (with_reducible assumption) | assumption)
       have sd : je < (l0.length : Int) := of_decide_eq_true (by first | (with_reducible assumption) | assumption)
       obtain ⟨Pw, Ex, Jb⟩ := Kd.at_int n7.out je so sd
       cases Ex
       replace so := eq_true so
       replace sd := eq_true sd
       go_wp2
       go_roundg k1
       case measure => have := dq.out; omega
       case rel => exact ⟨(js), (wrap64 (je + 1)), (by first | rfl | (simp; done) | (simp [*]; done)), (by first | rfl | (simp; done) | (simp [*]; done)), H', ⟨by have := dq.out; omega⟩, by repeat (first | exact Drawn0.refl _ | apply Drawn0.step)⟩
     ·rw [if_neg c5] at H
      exact absurd H (by simp)
    ·rw [if_neg c4] at H
     exact absurd H (by simp)
   ·rw [if_neg c3] at H
    have kT : decide (je < (l0.length : Int)) = false := decide_eq_false c3
    clear c3
    obtain rfl := Option.some.inj H
    go_wp2
    go_ret
    exact ⟨by first | rfl | (simp; done) | (simp [*]; done), by repeat (first | exact Drawn0.refl _ | apply Drawn0.step)⟩
end Go.Proofs.Ytemhalnhbgkbcaa.V
end

section
namespace Go.Proofs.Ytemhalnhbgkbcaa.V
attribute [local go_sem] dA dy ed ec cP cN dz dx
attribute [local go_sem high] Lu
mutual
def ah.j0 : Nat → Bool → Int → ByteArray → List Int → List Int → List (S76) → Option (Bool)
 | 0, _, _, _, _, _, _ => none
 | k + 1, YB, gN, gM, fO, fG, fC => if YB = true then (some false) else (ah.l0 k fC (fC.length : Int) 0 gN gM fO fG fC)
def ah.l0 : Nat → List (S76) → Int → Int → Int → ByteArray → List Int → List Int → List (S76) → Option (Bool)
 | 0, _, _, _, _, _, _, _, _ => none
 | k + 1, sY, Ce, pa, gN, gM, fO, fG, fC => if pa < Ce then (if 0 ≤ pa then (if pa < (sY.length : Int) then ((bN.f k ((a9 sY pa).f0) ((a9 sY pa).f1)).bind fun zs => (if zs = true then ((aM.f k fO (wrap64 (pa + 1))).bind fun pf => (ah.j2 k pa sY Ce pa (pf == 0) gN gM fO fG fC ((a9 sY pa).f0) ((a9 sY pa).f1))) else (ah.j2 k pa sY Ce pa true gN gM fO fG fC ((a9 sY pa).f0) ((a9 sY pa).f1)))) else (none)) else (none)) else (ah.l2 k fO (fO.length : Int) 0 gN gM fO fG fC)
def ah.j2 : Nat → Int → List (S76) → Int → Int → Bool → Int → ByteArray → List Int → List Int → List (S76) → ByteArray → ByteArray → Option (Bool)
 | 0, _, _, _, _, _, _, _, _, _, _, _, _ => none
 | k + 1, x3, sY, Ce, pa, YA, gN, gM, fO, fG, fC, sX, sW => if YA = true then (some false) else (if 0 ≤ x3 then (if x3 ≤ (fC.length : Int) then ((some (fC.take (x3 : Int).toNat : List (S76))).bind fun fa => (ah.l1 k sY Ce pa fa (fa.length : Int) 0 gN gM fO fG fC sX sW)) else (none)) else (none))
def ah.l1 : Nat → List (S76) → Int → Int → List (S76) → Int → Int → Int → ByteArray → List Int → List Int → List (S76) → ByteArray → ByteArray → Option (Bool)
 | 0, _, _, _, _, _, _, _, _, _, _, _, _, _ => none
 | k + 1, sY, Ce, pa, La, Tw, FR, gN, gM, fO, fG, fC, sX, sW => if FR < Tw then (if 0 ≤ FR then (if FR < (La.length : Int) then (if ((((a9 La FR).f0).toList) == sX.toList && ((((a9 La FR).f1).toList) == sW.toList)) = true then (some false) else (ah.l1 k sY Ce pa La Tw (wrap64 (FR + 1)) gN gM fO fG fC sX sW)) else (none)) else (none)) else (ah.l0 k sY Ce (wrap64 (pa + 1)) gN gM fO fG fC)
def ah.l2 : Nat → List Int → Int → Int → Int → ByteArray → List Int → List Int → List (S76) → Option (Bool)
 | 0, _, _, _, _, _, _, _, _ => none
 | k + 1, yq, FQ, sV, gN, gM, fO, fG, fC => if sV < FQ then (if 0 ≤ sV then (if sV < (yq.length : Int) then (if (rd yq sV) < 0 then (ah.j5 k sV (rd yq sV) yq FQ sV true gN gM fO fG fC) else (ah.j5 k sV (rd yq sV) yq FQ sV (decide ((rd yq sV) > (fC.length : Int))) gN gM fO fG fC)) else (none)) else (none)) else (ah.l3 k fG (fG.length : Int) 0)
def ah.j5 : Nat → Int → Int → List Int → Int → Int → Bool → Int → ByteArray → List Int → List Int → List (S76) → Option (Bool)
 | 0, _, _, _, _, _, _, _, _, _, _, _ => none
 | k + 1, x7, x8, yq, FQ, sV, Yz, gN, gM, fO, fG, fC => if Yz = true then (some false) else (if x8 = 0 then ((aM.f k fG x7).bind fun mo => (if mo = 1 then (ah.l2 k yq FQ (wrap64 (sV + 1)) gN gM fO fG fC) else (some false))) else ((aM.f k fG x7).bind fun mm => (if mm = 0 then (ah.l2 k yq FQ (wrap64 (sV + 1)) gN gM fO fG fC) else (some false))))
def ah.l3 : Nat → List Int → Int → Int → Option (Bool)
 | 0, _, _, _ => none
 | k + 1, K9, Tv, FP => if FP < Tv then (if 0 ≤ FP then (if FP < (K9.length : Int) then (if (rd K9 FP) < 0 then (some false) else (if (rd K9 FP) > 63 then (some false) else (ah.l3 k K9 Tv (wrap64 (FP + 1))))) else (none)) else (none)) else (some true)
end
def ah.f (k : Nat) (a6 : Int) (a8 : ByteArray) (aW : List Int) (bb : List Int) (aE : List (S76)) : Option (Bool) := if (Int.tmod a6 64) = 0 then ((bx.f k a8).bind fun uR => (if uR = true then (if (aE.length : Int) > 64 then (ah.j0 k true a6 a8 aW bb aE) else (ah.j0 k ((aW.length : Int) != 64) a6 a8 aW bb aE)) else (ah.j0 k true a6 a8 aW bb aE))) else (ah.j0 k true a6 a8 aW bb aE)
theorem ah.mono_l : ∀ k, (∀ y0 y1 y2 y3 y4 y5, aC (ah.j0 k y0 y1 y2 y3 y4 y5) (ah.j0 (k + 1) y0 y1 y2 y3 y4 y5)) ∧ (∀ y0 y1 y2 y3 y4 y5 y6 y7, aC (ah.l0 k y0 y1 y2 y3 y4 y5 y6 y7) (ah.l0 (k + 1) y0 y1 y2 y3 y4 y5 y6 y7)) ∧ (∀ y0 y1 y2 y3 y4 y5 y6 y7 y8 y9 wS Di, aC (ah.j2 k y0 y1 y2 y3 y4 y5 y6 y7 y8 y9 wS Di) (ah.j2 (k + 1) y0 y1 y2 y3 y4 y5 y6 y7 y8 y9 wS Di)) ∧ (∀ y0 y1 y2 y3 y4 y5 y6 y7 y8 y9 wS Di P1, aC (ah.l1 k y0 y1 y2 y3 y4 y5 y6 y7 y8 y9 wS Di P1) (ah.l1 (k + 1) y0 y1 y2 y3 y4 y5 y6 y7 y8 y9 wS Di P1)) ∧ (∀ y0 y1 y2 y3 y4 y5 y6 y7, aC (ah.l2 k y0 y1 y2 y3 y4 y5 y6 y7) (ah.l2 (k + 1) y0 y1 y2 y3 y4 y5 y6 y7)) ∧ (∀ y0 y1 y2 y3 y4 y5 y6 y7 y8 y9 wS, aC (ah.j5 k y0 y1 y2 y3 y4 y5 y6 y7 y8 y9 wS) (ah.j5 (k + 1) y0 y1 y2 y3 y4 y5 y6 y7 y8 y9 wS)) ∧ (∀ y0 y1 y2, aC (ah.l3 k y0 y1 y2) (ah.l3 (k + 1) y0 y1 y2))
 | 0 => ⟨fun _ _ _ _ _ _ r h => by simp [ah.j0] at h, fun _ _ _ _ _ _ _ _ r h => by simp [ah.l0] at h, fun _ _ _ _ _ _ _ _ _ _ _ _ r h => by simp [ah.j2] at h, fun _ _ _ _ _ _ _ _ _ _ _ _ _ r h => by simp [ah.l1] at h, fun _ _ _ _ _ _ _ _ r h => by simp [ah.l2] at h, fun _ _ _ _ _ _ _ _ _ _ _ r h => by simp [ah.j5] at h, fun _ _ _ r h => by simp [ah.l3] at h⟩
 | k + 1 => by
  obtain ⟨cE, gW, qM, qL, qK, qJ, qI⟩ := ah.mono_l k
  refine ⟨?_, ?_, ?_, ?_, ?_, ?_, ?_⟩
  ·intro y0 y1 y2 y3 y4 y5
   unfold ah.j0
   repeat' first
   | (with_reducible exact cE _ _ _ _ _ _)
   | (with_reducible exact gW _ _ _ _ _ _ _ _)
   | (with_reducible exact qM _ _ _ _ _ _ _ _ _ _ _ _)
   | (with_reducible exact qL _ _ _ _ _ _ _ _ _ _ _ _ _)
   | (with_reducible exact qK _ _ _ _ _ _ _ _)
   | (with_reducible exact qJ _ _ _ _ _ _ _ _ _ _ _)
   | (with_reducible exact qI _ _ _)
   | (with_reducible exact bN.mono _ _ _)
   | (with_reducible exact bx.mono _ _)
   | (with_reducible exact aM.mono _ _ _)
   | (with_reducible exact aC.refl _)
   | (with_reducible exact aC.none _)
   | (with_reducible refine aC.ite ?_ ?_)
   | (with_reducible refine aC.bind ?_ (fun _ => ?_))
   | exact cE _ _ _ _ _ _
   | exact gW _ _ _ _ _ _ _ _
   | exact qM _ _ _ _ _ _ _ _ _ _ _ _
   | exact qL _ _ _ _ _ _ _ _ _ _ _ _ _
   | exact qK _ _ _ _ _ _ _ _
   | exact qJ _ _ _ _ _ _ _ _ _ _ _
   | exact qI _ _ _
   | exact bN.mono _ _ _
   | exact bx.mono _ _
   | exact aM.mono _ _ _
   | exact aC.none _
   | refine aC.ite ?_ ?_
   | refine aC.bind ?_ (fun _ => ?_)
  ·intro y0 y1 y2 y3 y4 y5 y6 y7
   unfold ah.l0
   repeat' first
   | (with_reducible exact cE _ _ _ _ _ _)
   | (with_reducible exact gW _ _ _ _ _ _ _ _)
   | (with_reducible exact qM _ _ _ _ _ _ _ _ _ _ _ _)
   | (with_reducible exact qL _ _ _ _ _ _ _ _ _ _ _ _ _)
   | (with_reducible exact qK _ _ _ _ _ _ _ _)
   | (with_reducible exact qJ _ _ _ _ _ _ _ _ _ _ _)
   | (with_reducible exact qI _ _ _)
   | (with_reducible exact bN.mono _ _ _)
   | (with_reducible exact bx.mono _ _)
   | (with_reducible exact aM.mono _ _ _)
   | (with_reducible exact aC.refl _)
   | (with_reducible exact aC.none _)
   | (with_reducible refine aC.ite ?_ ?_)
   | (with_reducible refine aC.bind ?_ (fun _ => ?_))
   | exact cE _ _ _ _ _ _
   | exact gW _ _ _ _ _ _ _ _
   | exact qM _ _ _ _ _ _ _ _ _ _ _ _
   | exact qL _ _ _ _ _ _ _ _ _ _ _ _ _
   | exact qK _ _ _ _ _ _ _ _
   | exact qJ _ _ _ _ _ _ _ _ _ _ _
   | exact qI _ _ _
   | exact bN.mono _ _ _
   | exact bx.mono _ _
   | exact aM.mono _ _ _
   | exact aC.none _
   | refine aC.ite ?_ ?_
   | refine aC.bind ?_ (fun _ => ?_)
  ·intro y0 y1 y2 y3 y4 y5 y6 y7 y8 y9 wS Di
   unfold ah.j2
   repeat' first
   | (with_reducible exact cE _ _ _ _ _ _)
   | (with_reducible exact gW _ _ _ _ _ _ _ _)
   | (with_reducible exact qM _ _ _ _ _ _ _ _ _ _ _ _)
   | (with_reducible exact qL _ _ _ _ _ _ _ _ _ _ _ _ _)
   | (with_reducible exact qK _ _ _ _ _ _ _ _)
   | (with_reducible exact qJ _ _ _ _ _ _ _ _ _ _ _)
   | (with_reducible exact qI _ _ _)
   | (with_reducible exact bN.mono _ _ _)
   | (with_reducible exact bx.mono _ _)
   | (with_reducible exact aM.mono _ _ _)
   | (with_reducible exact aC.refl _)
   | (with_reducible exact aC.none _)
   | (with_reducible refine aC.ite ?_ ?_)
   | (with_reducible refine aC.bind ?_ (fun _ => ?_))
   | exact cE _ _ _ _ _ _
   | exact gW _ _ _ _ _ _ _ _
   | exact qM _ _ _ _ _ _ _ _ _ _ _ _
   | exact qL _ _ _ _ _ _ _ _ _ _ _ _ _
   | exact qK _ _ _ _ _ _ _ _
   | exact qJ _ _ _ _ _ _ _ _ _ _ _
   | exact qI _ _ _
   | exact bN.mono _ _ _
   | exact bx.mono _ _
   | exact aM.mono _ _ _
   | exact aC.none _
   | refine aC.ite ?_ ?_
   | refine aC.bind ?_ (fun _ => ?_)
  ·intro y0 y1 y2 y3 y4 y5 y6 y7 y8 y9 wS Di P1
   unfold ah.l1
   repeat' first
   | (with_reducible exact cE _ _ _ _ _ _)
   | (with_reducible exact gW _ _ _ _ _ _ _ _)
   | (with_reducible exact qM _ _ _ _ _ _ _ _ _ _ _ _)
   | (with_reducible exact qL _ _ _ _ _ _ _ _ _ _ _ _ _)
   | (with_reducible exact qK _ _ _ _ _ _ _ _)
   | (with_reducible exact qJ _ _ _ _ _ _ _ _ _ _ _)
   | (with_reducible exact qI _ _ _)
   | (with_reducible exact bN.mono _ _ _)
   | (with_reducible exact bx.mono _ _)
   | (with_reducible exact aM.mono _ _ _)
   | (with_reducible exact aC.refl _)
   | (with_reducible exact aC.none _)
   | (with_reducible refine aC.ite ?_ ?_)
   | (with_reducible refine aC.bind ?_ (fun _ => ?_))
   | exact cE _ _ _ _ _ _
   | exact gW _ _ _ _ _ _ _ _
   | exact qM _ _ _ _ _ _ _ _ _ _ _ _
   | exact qL _ _ _ _ _ _ _ _ _ _ _ _ _
   | exact qK _ _ _ _ _ _ _ _
   | exact qJ _ _ _ _ _ _ _ _ _ _ _
   | exact qI _ _ _
   | exact bN.mono _ _ _
   | exact bx.mono _ _
   | exact aM.mono _ _ _
   | exact aC.none _
   | refine aC.ite ?_ ?_
   | refine aC.bind ?_ (fun _ => ?_)
  ·intro y0 y1 y2 y3 y4 y5 y6 y7
   unfold ah.l2
   repeat' first
   | (with_reducible exact cE _ _ _ _ _ _)
   | (with_reducible exact gW _ _ _ _ _ _ _ _)
   | (with_reducible exact qM _ _ _ _ _ _ _ _ _ _ _ _)
   | (with_reducible exact qL _ _ _ _ _ _ _ _ _ _ _ _ _)
   | (with_reducible exact qK _ _ _ _ _ _ _ _)
   | (with_reducible exact qJ _ _ _ _ _ _ _ _ _ _ _)
   | (with_reducible exact qI _ _ _)
   | (with_reducible exact bN.mono _ _ _)
   | (with_reducible exact bx.mono _ _)
   | (with_reducible exact aM.mono _ _ _)
   | (with_reducible exact aC.refl _)
   | (with_reducible exact aC.none _)
   | (with_reducible refine aC.ite ?_ ?_)
   | (with_reducible refine aC.bind ?_ (fun _ => ?_))
   | exact cE _ _ _ _ _ _
   | exact gW _ _ _ _ _ _ _ _
   | exact qM _ _ _ _ _ _ _ _ _ _ _ _
   | exact qL _ _ _ _ _ _ _ _ _ _ _ _ _
   | exact qK _ _ _ _ _ _ _ _
   | exact qJ _ _ _ _ _ _ _ _ _ _ _
   | exact qI _ _ _
   | exact bN.mono _ _ _
   | exact bx.mono _ _
   | exact aM.mono _ _ _
   | exact aC.none _
   | refine aC.ite ?_ ?_
   | refine aC.bind ?_ (fun _ => ?_)
  ·intro y0 y1 y2 y3 y4 y5 y6 y7 y8 y9 wS
   unfold ah.j5
   repeat' first
   | (with_reducible exact cE _ _ _ _ _ _)
   | (with_reducible exact gW _ _ _ _ _ _ _ _)
   | (with_reducible exact qM _ _ _ _ _ _ _ _ _ _ _ _)
   | (with_reducible exact qL _ _ _ _ _ _ _ _ _ _ _ _ _)
   | (with_reducible exact qK _ _ _ _ _ _ _ _)
   | (with_reducible exact qJ _ _ _ _ _ _ _ _ _ _ _)
   | (with_reducible exact qI _ _ _)
   | (with_reducible exact bN.mono _ _ _)
   | (with_reducible exact bx.mono _ _)
   | (with_reducible exact aM.mono _ _ _)
   | (with_reducible exact aC.refl _)
   | (with_reducible exact aC.none _)
   | (with_reducible refine aC.ite ?_ ?_)
   | (with_reducible refine aC.bind ?_ (fun _ => ?_))
   | exact cE _ _ _ _ _ _
   | exact gW _ _ _ _ _ _ _ _
   | exact qM _ _ _ _ _ _ _ _ _ _ _ _
   | exact qL _ _ _ _ _ _ _ _ _ _ _ _ _
   | exact qK _ _ _ _ _ _ _ _
   | exact qJ _ _ _ _ _ _ _ _ _ _ _
   | exact qI _ _ _
   | exact bN.mono _ _ _
   | exact bx.mono _ _
   | exact aM.mono _ _ _
   | exact aC.none _
   | refine aC.ite ?_ ?_
   | refine aC.bind ?_ (fun _ => ?_)
  ·intro y0 y1 y2
   unfold ah.l3
   repeat' first
   | (with_reducible exact cE _ _ _ _ _ _)
   | (with_reducible exact gW _ _ _ _ _ _ _ _)
   | (with_reducible exact qM _ _ _ _ _ _ _ _ _ _ _ _)
   | (with_reducible exact qL _ _ _ _ _ _ _ _ _ _ _ _ _)
   | (with_reducible exact qK _ _ _ _ _ _ _ _)
   | (with_reducible exact qJ _ _ _ _ _ _ _ _ _ _ _)
   | (with_reducible exact qI _ _ _)
   | (with_reducible exact bN.mono _ _ _)
   | (with_reducible exact bx.mono _ _)
   | (with_reducible exact aM.mono _ _ _)
   | (with_reducible exact aC.refl _)
   | (with_reducible exact aC.none _)
   | (with_reducible refine aC.ite ?_ ?_)
   | (with_reducible refine aC.bind ?_ (fun _ => ?_))
   | exact cE _ _ _ _ _ _
   | exact gW _ _ _ _ _ _ _ _
   | exact qM _ _ _ _ _ _ _ _ _ _ _ _
   | exact qL _ _ _ _ _ _ _ _ _ _ _ _ _
   | exact qK _ _ _ _ _ _ _ _
   | exact qJ _ _ _ _ _ _ _ _ _ _ _
   | exact qI _ _ _
   | exact bN.mono _ _ _
   | exact bx.mono _ _
   | exact aM.mono _ _ _
   | exact aC.none _
   | refine aC.ite ?_ ?_
   | refine aC.bind ?_ (fun _ => ?_)
theorem ah.mono : ∀ a0 a1 a2 a3 a4 k, aC (ah.f k a0 a1 a2 a3 a4) (ah.f (k + 1) a0 a1 a2 a3 a4) := by
 intro a0 a1 a2 a3 a4 k
 obtain ⟨cE, gW, qM, qL, qK, qJ, qI⟩ := ah.mono_l k
 unfold ah.f
 repeat' first
   | (with_reducible exact cE _ _ _ _ _ _)
   | (with_reducible exact gW _ _ _ _ _ _ _ _)
   | (with_reducible exact qM _ _ _ _ _ _ _ _ _ _ _ _)
   | (with_reducible exact qL _ _ _ _ _ _ _ _ _ _ _ _ _)
   | (with_reducible exact qK _ _ _ _ _ _ _ _)
   | (with_reducible exact qJ _ _ _ _ _ _ _ _ _ _ _)
   | (with_reducible exact qI _ _ _)
   | (with_reducible exact bN.mono _ _ _)
   | (with_reducible exact bx.mono _ _)
   | (with_reducible exact aM.mono _ _ _)
   | (with_reducible exact aC.refl _)
   | (with_reducible exact aC.none _)
   | (with_reducible refine aC.ite ?_ ?_)
   | (with_reducible refine aC.bind ?_ (fun _ => ?_))
   | exact cE _ _ _ _ _ _
   | exact gW _ _ _ _ _ _ _ _
   | exact qM _ _ _ _ _ _ _ _ _ _ _ _
   | exact qL _ _ _ _ _ _ _ _ _ _ _ _ _
   | exact qK _ _ _ _ _ _ _ _
   | exact qJ _ _ _ _ _ _ _ _ _ _ _
   | exact qI _ _ _
   | exact bN.mono _ _ _
   | exact bx.mono _ _
   | exact aM.mono _ _ _
   | exact aC.none _
   | refine aC.ite ?_ ?_
   | refine aC.bind ?_ (fun _ => ?_)
set_option maxHeartbeats 8000000 in
set_option maxRecDepth 100000 in
theorem ah.calls (k : Nat) (a6 : Int) (a8 : ByteArray) (dV : Option Addr) (dB : Nat) (aW : List Int) (cV : Option Addr) (cT : Nat) (bb : List Int) (dU : Option Addr) (cJ : Nat) (aE : List (S76)) (r : Bool) (w : World) (pv : Kd.C (Kd.int .i64) w dV aW.length aW) (pD : aW.length ≤ dB) (pr : Kd.C (Kd.int .i64) w cV bb.length bb) (pC : bb.length ≤ cT) (pq : Kd.C ia w dU aE.length aE) (pB : aE.length ≤ cJ) (h : ah.f k a6 a8 aW bb aE = some r) :
  Calls Try.prog 35 #[.agg #[.int .u32 a6, .string a8, .slice dV aW.length dB, .slice cV bb.length cT, .slice dU aE.length cJ]] w fun e w' => e = .returned (.bool r) ∧ Below w.heap.size w w' := by
 have Hf := Try.underlying62
 have Kr := Try.underlying76
 have oG := ak pv
 have wz := ak pD
 clear pv pD
 have mY := ak pr
 have qC := ak pC
 clear pr pC
 have qA := ak pq
 have wy := ak pB
 clear pq pB
 have HB := ak (Below.refl w.heap.size w)
 have H : (if (Int.tmod a6 64) = 0 then ((bx.f k a8).bind fun uR => (if uR = true then (if (aE.length : Int) > 64 then (ah.j0 k true a6 a8 aW bb aE) else (ah.j0 k ((aW.length : Int) != 64) a6 a8 aW bb aE)) else (ah.j0 k true a6 a8 aW bb aE))) else (ah.j0 k true a6 a8 aW bb aE)) = some r := h
 clear h
 have yL := ak H
 clear H
 go_enter Try.func35, Try.ntmps35
 go_upto_region 1 with (first | ((with_reducible refine aJ (N := 1) rfl ?_); (try (refine fk (by rfl) ?_; dsimp only)); refine eY ?hg (N := 1) ?hd (cs := #[.int .u32 a6, .string a8, .slice dV aW.length dB, .slice cV bb.length cT, .slice dU aE.length cJ]) (t := 62) ?hr ?_; (case hd => rfl); (case hg => rfl); (case hr => first | (go_simp; done) | (go_simp; rfl)); intro bh hg w3 hbox hb; have bR := ak (bA (by repeat (first | (with_reducible first | exact HB.out | apply af | apply ab | apply ai) | exact HB.out)) hb); have bX := ak (hbox); have dh := ak ((by rw [hg]; exact (bo (by repeat (first | (with_reducible first | exact HB.out | apply af | apply ab | apply ai) | exact HB.out))) : w.heap.size ≤ bh)); have dX := ak ((by rw [hg]; exact (bo (by repeat (first | (with_reducible first | exact HB.out | apply af | apply ab | apply ai) | exact HB.out))) : w.heap.size ≤ bh)); clear HB; have HB := bR; have az := bX; have Yy := dh; have ev := dX; clear bR bX dh dX; clear hb hbox hg))
 (try simp only [Act.put, List.setIfInBounds_toArray, List.set_cons_zero, List.set_cons_succ])
 go_cut [33] (fun YR wc => ∃ (kq : Nat) (CY : Bool), YR = .bool CY ∧ Aside0 (ah.j0 kq CY a6 a8 aW bb aE = some r) ∧ Aside0 (kq ≤ k) ∧ Aside0 (wc.heap[bh]? = some (.cells #[.int .u32 a6, .string a8, (.slice dV aW.length dB), (.slice cV bb.length cT), (.slice dU aE.length cJ)] 62 (0, 0))) ∧ Aside0 (Below w.heap.size w wc))
 case first =>
  have H := yL.out
  clear yL
  by_cases c4 : (Int.tmod a6 64) = 0
  ·rw [if_pos c4] at H
   have jG : ((Int.tmod a6 64) == 0) = true := beq_iff_eq.mpr c4
   have UE : ((Int.tmod a6 64) != 0) = false := bne_eq_false_iff_eq.mpr c4
   clear c4
   (first | rw [jG] | (simp only [iT, jx]; rw [jG]) | skip)
   replace H := Option.bind_eq_some_iff.mp H
   obtain ⟨uR, uu, H⟩ := H
   replace H : (if uR = true then (if (aE.length : Int) > 64 then (ah.j0 k true a6 a8 aW bb aE) else (ah.j0 k ((aW.length : Int) != 64) a6 a8 aW bb aE)) else (ah.j0 k true a6 a8 aW bb aE)) = some r := H
   have A5 := ak uu
   clear uu
   by_cases c6 : uR = true
   ·subst c6
    have H1 : (if (aE.length : Int) > 64 then (ah.j0 k true a6 a8 aW bb aE) else (ah.j0 k ((aW.length : Int) != 64) a6 a8 aW bb aE)) = some r := by rw [if_pos rfl] at H; exact H
    clear H
    have H := H1
    clear H1
    by_cases c7 : (aE.length : Int) > 64
    ·rw [if_pos c7] at H
     have lh : decide (64 < (aE.length : Int)) = true := decide_eq_true c7
     have Hr : decide (64 < aE.length) = true := decide_eq_true (by omega)
     clear c7
     have H' := ak H
     clear H
     have Ed : w3.cell? ⟨bh, 0, none⟩ = some (.int .u32 a6) := (al az.out 0).trans rfl
     have Ec : w3.cell? ⟨bh, 1, none⟩ = some (.string a8) := (al az.out 1).trans rfl
     have Zx : w3.cell? ⟨bh, 2, none⟩ = some (.slice dV aW.length dB) := (al az.out 2).trans rfl
     have Zw : w3.cell? ⟨bh, 3, none⟩ = some (.slice cV bb.length cT) := (al az.out 3).trans rfl
     have Zv : w3.cell? ⟨bh, 4, none⟩ = some (.slice dU aE.length cJ) := (al az.out 4).trans rfl
     have D6 := aj az.out 0
     have D5 := aj az.out 1
     have Zf := aj az.out 2
     have Ze := aj az.out 3
     have Zd := aj az.out 4
     go_wp2_with (first | (go_at_call 42; (with_reducible refine (bx.calls k a8 true _ A5.out).mono ?_); rintro e w' ⟨rfl, ⟨nd, rfl⟩⟩))
     go_meet
     case rel => exact ⟨_, (true), (by first | rfl | (simp; done) | (simp [*]; done)), H', ⟨by first | omega | exact Nat.le_refl _⟩, ⟨by (with_reducible repeat (first | refine ax ?_ _ | refine aG ?_ | refine ay ?_ _)); exact az.out⟩, ⟨by repeat (first | (with_reducible first | exact HB.out | apply af | apply ab | apply ai | refine aD ?_ ev.out) | exact HB.out)⟩⟩
    ·rw [if_neg c7] at H
     have lh : decide (64 < (aE.length : Int)) = false := decide_eq_false c7
     have Hr : decide (64 < aE.length) = false := decide_eq_false (by omega)
     clear c7
     have H' := ak H
     clear H
     have QG : w3.cell? ⟨bh, 0, none⟩ = some (.int .u32 a6) := (al az.out 0).trans rfl
     have QF : w3.cell? ⟨bh, 1, none⟩ = some (.string a8) := (al az.out 1).trans rfl
     have Zu : w3.cell? ⟨bh, 2, none⟩ = some (.slice dV aW.length dB) := (al az.out 2).trans rfl
     have Zt : w3.cell? ⟨bh, 3, none⟩ = some (.slice cV bb.length cT) := (al az.out 3).trans rfl
     have Zs : w3.cell? ⟨bh, 4, none⟩ = some (.slice dU aE.length cJ) := (al az.out 4).trans rfl
     have QD := aj az.out 0
     have QC := aj az.out 1
     have Zc := aj az.out 2
     have Zb := aj az.out 3
     have Za := aj az.out 4
     go_wp2_with (first | (go_at_call 42; (with_reducible refine (bx.calls k a8 true _ A5.out).mono ?_); rintro e w' ⟨rfl, ⟨nd, rfl⟩⟩))
     go_meet
     case rel => exact ⟨_, (((aW.length : Int) != 64)), (by first | rfl | (simp; done) | (simp [*]; done)), H', ⟨by first | omega | exact Nat.le_refl _⟩, ⟨by (with_reducible repeat (first | refine ax ?_ _ | refine aG ?_ | refine ay ?_ _)); exact az.out⟩, ⟨by repeat (first | (with_reducible first | exact HB.out | apply af | apply ab | apply ai | refine aD ?_ ev.out) | exact HB.out)⟩⟩
   ·replace c6 := Bool.eq_false_iff.mpr c6
    subst c6
    have H1 : (ah.j0 k true a6 a8 aW bb aE) = some r := by rw [if_neg (show ¬ (false = true) by decide)] at H; exact H
    clear H
    have H := H1
    clear H1
    have H' := ak H
    clear H
    have Pe : w3.cell? ⟨bh, 0, none⟩ = some (.int .u32 a6) := (al az.out 0).trans rfl
    have Pd : w3.cell? ⟨bh, 1, none⟩ = some (.string a8) := (al az.out 1).trans rfl
    have Pc : w3.cell? ⟨bh, 2, none⟩ = some (.slice dV aW.length dB) := (al az.out 2).trans rfl
    have Pb : w3.cell? ⟨bh, 3, none⟩ = some (.slice cV bb.length cT) := (al az.out 3).trans rfl
    have Pa : w3.cell? ⟨bh, 4, none⟩ = some (.slice dU aE.length cJ) := (al az.out 4).trans rfl
    have OH := aj az.out 0
    have OG := aj az.out 1
    have OF := aj az.out 2
    have OE := aj az.out 3
    have OD := aj az.out 4
    go_wp2_with (first | (go_at_call 42; (with_reducible refine (bx.calls k a8 false _ A5.out).mono ?_); rintro e w' ⟨rfl, ⟨nd, rfl⟩⟩))
    go_meet
    case rel => exact ⟨_, (true), (by first | rfl | (simp; done) | (simp [*]; done)), H', ⟨by first | omega | exact Nat.le_refl _⟩, ⟨by (with_reducible repeat (first | refine ax ?_ _ | refine aG ?_ | refine ay ?_ _)); exact az.out⟩, ⟨by repeat (first | (with_reducible first | exact HB.out | apply af | apply ab | apply ai | refine aD ?_ ev.out) | exact HB.out)⟩⟩
  ·rw [if_neg c4] at H
   have jG : ((Int.tmod a6 64) == 0) = false := beq_eq_false_iff_ne.mpr c4
   have UE : ((Int.tmod a6 64) != 0) = true := bne_iff_ne.mpr c4
   (first | rw [jG] | (simp only [iT, jx]; rw [jG]) | skip)
   have H' := ak H
   clear H
   have Ga : w3.cell? ⟨bh, 0, none⟩ = some (.int .u32 a6) := (al az.out 0).trans rfl
   have F9 : w3.cell? ⟨bh, 1, none⟩ = some (.string a8) := (al az.out 1).trans rfl
   have O9 : w3.cell? ⟨bh, 2, none⟩ = some (.slice dV aW.length dB) := (al az.out 2).trans rfl
   have O8 : w3.cell? ⟨bh, 3, none⟩ = some (.slice cV bb.length cT) := (al az.out 3).trans rfl
   have O7 : w3.cell? ⟨bh, 4, none⟩ = some (.slice dU aE.length cJ) := (al az.out 4).trans rfl
   have F8 := aj az.out 0
   have F7 := aj az.out 1
   have OB := aj az.out 2
   have OA := aj az.out 3
   have Oz := aj az.out 4
   go_wp2
   go_meet
   case rel => exact ⟨_, (true), (by first | rfl | (simp; done) | (simp [*]; done)), H', ⟨by first | omega | exact Nat.le_refl _⟩, ⟨by (with_reducible repeat (first | refine ax ?_ _ | refine aG ?_ | refine ay ?_ _)); exact az.out⟩, ⟨by repeat (first | (with_reducible first | exact HB.out | apply af | apply ab | apply ai | refine aD ?_ ev.out) | exact HB.out)⟩⟩
 case rest =>
  clear yL
  obtain ⟨kq, CY, rfl, HA, oB, az, HB⟩ := hcut
  cases kq with
  | zero => exact absurd HA.out (by simp [ah.j0])
  | succ xn =>
   have H := HA.out
   clear HA
   simp only [ah.j0] at H
   by_cases mC : CY = true
   ·subst mC
    have H1 : (some false) = some r := by rw [if_pos rfl] at H; exact H
    clear H
    have H := H1
    clear H1
    obtain rfl := Option.some.inj H
    go_wp2
    go_ret
    exact ⟨by first | rfl | (simp [bf, bd] <;> rfl) | (simp [*, bf, bd] <;> rfl), by repeat (first | (with_reducible first | exact HB.out | apply af | apply ab | apply ai | refine aD ?_ ev.out) | exact HB.out)⟩
   ·replace mC := Bool.eq_false_iff.mpr mC
    subst mC
    have H1 : (ah.l0 xn aE (aE.length : Int) 0 a6 a8 aW bb aE) = some r := by rw [if_neg (show ¬ (false = true) by decide)] at H; exact H
    clear H
    have H := H1
    clear H1
    have H' := ak H
    clear H
    have O6 : wc.cell? ⟨bh, 0, none⟩ = some (.int .u32 a6) := (al az.out 0).trans rfl
    have O5 : wc.cell? ⟨bh, 1, none⟩ = some (.string a8) := (al az.out 1).trans rfl
    have O4 : wc.cell? ⟨bh, 2, none⟩ = some (.slice dV aW.length dB) := (al az.out 2).trans rfl
    have O3 : wc.cell? ⟨bh, 3, none⟩ = some (.slice cV bb.length cT) := (al az.out 3).trans rfl
    have O2 : wc.cell? ⟨bh, 4, none⟩ = some (.slice dU aE.length cJ) := (al az.out 4).trans rfl
    have Oy := aj az.out 0
    have Ox := aj az.out 1
    have Ow := aj az.out 2
    have Ov := aj az.out 3
    have Ou := aj az.out 4
    go_wp2
    go_loopg [37] xn (fun kq YQ w' => ∃ (bD : Int), YQ = .int .i64 bD ∧ Aside0 (ah.l0 kq aE (aE.length : Int) bD a6 a8 aW bb aE = some r) ∧ Aside0 (kq ≤ xn) ∧ Aside0 (w'.heap[bh]? = some (.cells #[.int .u32 a6, .string a8, (.slice dV aW.length dB), (.slice cV bb.length cT), (.slice dU aE.length cJ)] 62 (0, 0))) ∧ Aside0 (Below w.heap.size w w'))
    case atStart => exact ⟨(0), (by first | rfl | (simp; done) | (simp [*]; done)), H', ⟨Nat.le_refl _⟩, ⟨by (with_reducible repeat (first | refine ax ?_ _ | refine aG ?_ | refine ay ?_ _)); exact az.out⟩, ⟨by repeat (first | (with_reducible first | exact HB.out | apply af | apply ab | apply ai | refine aD ?_ ev.out) | exact HB.out)⟩⟩
    case round =>
     clear H'
     obtain ⟨bD, rfl, HA, lH, az, HB⟩ := hrel
     cases gk with
     | zero => exact absurd HA.out (by simp [ah.l0])
     | succ k2 =>
      have H := HA.out
      clear HA
      simp only [ah.l0] at H
      by_cases tt : bD < (aE.length : Int)
      ·rw [if_pos tt] at H
       have Hv : decide (bD < (aE.length : Int)) = true := decide_eq_true tt
       clear tt
       by_cases wO : 0 ≤ bD
       ·rw [if_pos wO] at H
        have LM : decide (0 ≤ bD) = true := decide_eq_true wO
        clear wO
        by_cases wN : bD < (aE.length : Int)
        ·rw [if_pos wN] at H
         have LL : decide (bD < (aE.length : Int)) = true := decide_eq_true wN
         clear wN
         have K4 := ak H
         clear H
         have DJ : 0 ≤ (bD : Int) := of_decide_eq_true (by first | (with_reducible assumption) | assumption)
         have DD : bD < (aE.length : Int) := of_decide_eq_true (by first | (with_reducible assumption) | assumption)
         obtain ⟨iu, QY, xu, xt⟩ := sN qA.out bD DJ DD
         cases QY
         replace xu := (HB.out.cell (World.block_lt_of_cell? w _ xu)).trans xu
         replace xt := (HB.out.cell (World.block_lt_of_cell? w _ xt)).trans xt
         replace DJ := eq_true DJ
         replace DD := eq_true DD
         go_upto_region 6 with (first | ((with_reducible refine aJ (N := 4) rfl ?_); (try (refine fk (by rfl) ?_; dsimp only)); refine eY ?hg (N := 4) ?hd (cs := #[.string (⟨#[]⟩ : ByteArray), .string (⟨#[]⟩ : ByteArray)]) (t := 76) ?hr ?_; (case hd => rfl); (case hg => rfl); (case hr => first | (go_simp; done) | (go_simp; rfl)); intro fy hg FU hbox hb; have bR := ak (eh (g := bh) (o := .cells #[.int .u32 a6, .string a8, .slice dV aW.length dB, .slice cV bb.length cT, .slice (some iu) aE.length cJ] 62 (0, 0)) (by (with_reducible repeat (first | refine ax ?_ _ | refine aG ?_ | refine ay ?_ _)); exact az.out) hb); have bX := ak (bA (by repeat (first | (with_reducible first | exact HB.out | apply af | apply ab | apply ai | refine aD ?_ ev.out) | exact HB.out)) hb); have dh := ak (hbox); have dX := ak ((by rw [hg]; exact (bo (by repeat (first | (with_reducible first | exact HB.out | apply af | apply ab | apply ai | refine aD ?_ ev.out) | exact HB.out))) : w.heap.size ≤ fy)); have iE := ak ((by rw [hg]; exact (bo (by repeat (first | (with_reducible first | exact HB.out | apply af | apply ab | apply ai | refine aD ?_ ev.out) | exact HB.out))) : w.heap.size ≤ fy)); have kL := ak ((by rw [hg]; exact Nat.ne_of_lt (gu (g := bh) (o := .cells #[.int .u32 a6, .string a8, .slice dV aW.length dB, .slice cV bb.length cT, .slice (some iu) aE.length cJ] 62 (0, 0)) (by (with_reducible repeat (first | refine ax ?_ _ | refine aG ?_ | refine ay ?_ _)); exact az.out)) : bh ≠ fy)); have l5 := ak ((by rw [hg]; exact Nat.ne_of_gt (gu (g := bh) (o := .cells #[.int .u32 a6, .string a8, .slice dV aW.length dB, .slice cV bb.length cT, .slice (some iu) aE.length cJ] 62 (0, 0)) (by (with_reducible repeat (first | refine ax ?_ _ | refine aG ?_ | refine ay ?_ _)); exact az.out)) : fy ≠ bh)); clear az; clear HB; have az := bR; have HB := bX; have dL := dh; have Yx := dX; have jJ := iE; have ir := kL; have lx := l5; clear bR bX dh dX iE kL l5; clear hb hbox hg; have ad4 := lx.out; have ab8 := ir.out; have OR : FU.cell? ⟨fy, 0, none⟩ = some (.string (⟨#[]⟩ : ByteArray)) := (al dL.out 0).trans rfl; have OQ : FU.cell? ⟨fy, 1, none⟩ = some (.string (⟨#[]⟩ : ByteArray)) := (al dL.out 1).trans rfl; have Of := aj dL.out 0; have Oe := aj dL.out 1))
         (try simp only [Act.put, List.setIfInBounds_toArray, List.set_cons_zero, List.set_cons_succ])
         go_cut [52] (fun YN wc => ∃ (kq : Nat) (zl : Bool), YN = .bool zl ∧ Aside0 (ah.j2 kq bD aE (aE.length : Int) bD zl a6 a8 aW bb aE ((a9 aE bD).f0) ((a9 aE bD).f1) = some r) ∧ Aside0 (kq ≤ k2) ∧ Aside0 (wc.heap[bh]? = some (.cells #[.int .u32 a6, .string a8, (.slice dV aW.length dB), (.slice cV bb.length cT), (.slice (some iu) aE.length cJ)] 62 (0, 0))) ∧ Aside0 (wc.heap[fy]? = some (.cells #[.string ((a9 aE bD).f0), .string ((a9 aE bD).f1)] 76 (0, 0))) ∧ Aside0 (Below w.heap.size w wc))
         case first =>
          have H := K4.out
          clear K4
          replace H := Option.bind_eq_some_iff.mp H
          obtain ⟨zs, Sb, H⟩ := H
          replace H : (if zs = true then ((aM.f k2 aW (wrap64 (bD + 1))).bind fun pf => (ah.j2 k2 bD aE (aE.length : Int) bD (pf == 0) a6 a8 aW bb aE ((a9 aE bD).f0) ((a9 aE bD).f1))) else (ah.j2 k2 bD aE (aE.length : Int) bD true a6 a8 aW bb aE ((a9 aE bD).f0) ((a9 aE bD).f1))) = some r := H
          have Ug := ak Sb
          clear Sb
          by_cases wM : zs = true
          ·subst wM
           have H1 : ((aM.f k2 aW (wrap64 (bD + 1))).bind fun pf => (ah.j2 k2 bD aE (aE.length : Int) bD (pf == 0) a6 a8 aW bb aE ((a9 aE bD).f0) ((a9 aE bD).f1))) = some r := by rw [if_pos rfl] at H; exact H
           clear H
           have H := H1
           clear H1
           replace H := Option.bind_eq_some_iff.mp H
           obtain ⟨pf, Sa, H⟩ := H
           replace H : (ah.j2 k2 bD aE (aE.length : Int) bD (pf == 0) a6 a8 aW bb aE ((a9 aE bD).f0) ((a9 aE bD).f1)) = some r := H
           have A23 := ak Sa
           clear Sa
           have H' := ak H
           clear H
           have ad1 := lx.out
           have ab6 := ir.out
           have OK : FU.cell? ⟨fy, 0, none⟩ = some (.string (⟨#[]⟩ : ByteArray)) := (al dL.out 0).trans rfl
           have OJ : FU.cell? ⟨fy, 1, none⟩ = some (.string (⟨#[]⟩ : ByteArray)) := (al dL.out 1).trans rfl
           have N8 := aj dL.out 0
           have N7 := aj dL.out 1
           go_wp2_with (first | ((with_reducible refine dp (f := 60) rfl ?_); refine fQ (some 43) rfl rfl Try.func60 (by kernel_rfl) rfl #[.agg #[.string ((a9 aE bD).f0), .string ((a9 aE bD).f1)]] rfl (by (try simp only [List.map_toArray, List.map_cons, List.map_nil]); first | done | rfl | (simp only [List.length_drop, List.length_take]; rfl)) ?_; (with_reducible refine (bN.calls k2 ((a9 aE bD).f0) ((a9 aE bD).f1) true _ Ug.out).mono ?_); rintro e Io ⟨rfl, hb⟩; refine ⟨_, rfl, ?_⟩; have bR := ak (eh (g := bh) (o := .cells #[.int .u32 a6, .string a8, .slice dV aW.length dB, .slice cV bb.length cT, .slice (some iu) aE.length cJ] 62 (0, 0)) (by (with_reducible repeat (first | refine ax ?_ _ | refine aG ?_ | refine ay ?_ _)); refine iG ?_ ir.out _; (with_reducible repeat (first | refine ax ?_ _ | refine aG ?_ | refine ay ?_ _)); refine iG ?_ ir.out _; (with_reducible repeat (first | refine ax ?_ _ | refine aG ?_ | refine ay ?_ _)); exact az.out) hb); have bX := ak (eh (g := fy) (o := .cells #[.string ((a9 aE bD).f0), .string ((a9 aE bD).f1)] 76 (0, 0)) (by (with_reducible repeat (first | refine ax ?_ _ | refine aG ?_ | refine ay ?_ _)); refine e7 (cs := #[.string ((a9 aE bD).f0), .string (⟨#[]⟩ : ByteArray)]) ?_ 1 _ rfl; (with_reducible repeat (first | refine ax ?_ _ | refine aG ?_ | refine ay ?_ _)); refine e7 (cs := #[.string (⟨#[]⟩ : ByteArray), .string (⟨#[]⟩ : ByteArray)]) ?_ 0 _ rfl; (with_reducible repeat (first | refine ax ?_ _ | refine aG ?_ | refine ay ?_ _)); exact dL.out) hb); have dh := ak (bA (by repeat (first | (with_reducible first | exact HB.out | apply af | apply ab | apply ai | refine aD ?_ ev.out | refine aD ?_ jJ.out) | exact HB.out)) hb); clear az; clear dL; clear HB; have az := bR; have dL := bX; have HB := dh; clear bR bX dh; (try clear hb); (try clear eX); (try clear hk); (try clear hi); have XR : Io.cell? ⟨bh, 0, none⟩ = some (.int .u32 a6) := (al az.out 0).trans rfl; have XQ : Io.cell? ⟨bh, 1, none⟩ = some (.string a8) := (al az.out 1).trans rfl; have XP : Io.cell? ⟨bh, 2, none⟩ = some (.slice dV aW.length dB) := (al az.out 2).trans rfl; have XO : Io.cell? ⟨bh, 3, none⟩ = some (.slice cV bb.length cT) := (al az.out 3).trans rfl; have XN : Io.cell? ⟨bh, 4, none⟩ = some (.slice (some iu) aE.length cJ) := (al az.out 4).trans rfl; have V0 := aj az.out 0; have VZ := aj az.out 1; have VY := aj az.out 2; have VX := aj az.out 3; have VW := aj az.out 4) | (go_at_call 68; (with_reducible refine (aM.calls k2 _ _ aW (wrap64 (bD + 1)) pf _ ?side1 ?side2 A23.out).mono ?_); (case side1 => repeat (first | exact (Kd.C_below oG.out HB.out) | (with_reducible refine Kd.C_alloc ?_ _) | (with_reducible refine Kd.C_drewN ?_ _) | (with_reducible refine Kd.C_drew ?_))); (case side2 => exact wz.out); rintro e w' ⟨rfl, ⟨nd, rfl⟩⟩))
           go_meet
           case rel => exact ⟨_, ((pf == 0)), (by first | rfl | (simp; done) | (simp [*]; done)), H', ⟨by have := oB.out; have := lH.out; first | omega | exact Nat.le_refl _⟩, ⟨by (with_reducible repeat (first | refine ax ?_ _ | refine aG ?_ | refine ay ?_ _)); exact az.out⟩, ⟨by (with_reducible repeat (first | refine ax ?_ _ | refine aG ?_ | refine ay ?_ _)); exact dL.out⟩, ⟨by repeat (first | (with_reducible first | exact HB.out | apply af | apply ab | apply ai | refine aD ?_ ev.out | refine aD ?_ jJ.out) | exact HB.out)⟩⟩
          ·replace wM := Bool.eq_false_iff.mpr wM
           subst wM
           have H1 : (ah.j2 k2 bD aE (aE.length : Int) bD true a6 a8 aW bb aE ((a9 aE bD).f0) ((a9 aE bD).f1)) = some r := by rw [if_neg (show ¬ (false = true) by decide)] at H; exact H
           clear H
           have H := H1
           clear H1
           have H' := ak H
           clear H
           have ad0 := lx.out
           have ab5 := ir.out
           have XM : FU.cell? ⟨fy, 0, none⟩ = some (.string (⟨#[]⟩ : ByteArray)) := (al dL.out 0).trans rfl
           have XL : FU.cell? ⟨fy, 1, none⟩ = some (.string (⟨#[]⟩ : ByteArray)) := (al dL.out 1).trans rfl
           have VV := aj dL.out 0
           have VU := aj dL.out 1
           go_wp2_with (first | ((with_reducible refine dp (f := 60) rfl ?_); refine fQ (some 43) rfl rfl Try.func60 (by kernel_rfl) rfl #[.agg #[.string ((a9 aE bD).f0), .string ((a9 aE bD).f1)]] rfl (by (try simp only [List.map_toArray, List.map_cons, List.map_nil]); first | done | rfl | (simp only [List.length_drop, List.length_take]; rfl)) ?_; (with_reducible refine (bN.calls k2 ((a9 aE bD).f0) ((a9 aE bD).f1) false _ Ug.out).mono ?_); rintro e w30 ⟨rfl, hb⟩; refine ⟨_, rfl, ?_⟩; have bR := ak (eh (g := bh) (o := .cells #[.int .u32 a6, .string a8, .slice dV aW.length dB, .slice cV bb.length cT, .slice (some iu) aE.length cJ] 62 (0, 0)) (by (with_reducible repeat (first | refine ax ?_ _ | refine aG ?_ | refine ay ?_ _)); refine iG ?_ ir.out _; (with_reducible repeat (first | refine ax ?_ _ | refine aG ?_ | refine ay ?_ _)); refine iG ?_ ir.out _; (with_reducible repeat (first | refine ax ?_ _ | refine aG ?_ | refine ay ?_ _)); exact az.out) hb); have bX := ak (eh (g := fy) (o := .cells #[.string ((a9 aE bD).f0), .string ((a9 aE bD).f1)] 76 (0, 0)) (by (with_reducible repeat (first | refine ax ?_ _ | refine aG ?_ | refine ay ?_ _)); refine e7 (cs := #[.string ((a9 aE bD).f0), .string (⟨#[]⟩ : ByteArray)]) ?_ 1 _ rfl; (with_reducible repeat (first | refine ax ?_ _ | refine aG ?_ | refine ay ?_ _)); refine e7 (cs := #[.string (⟨#[]⟩ : ByteArray), .string (⟨#[]⟩ : ByteArray)]) ?_ 0 _ rfl; (with_reducible repeat (first | refine ax ?_ _ | refine aG ?_ | refine ay ?_ _)); exact dL.out) hb); have dh := ak (bA (by repeat (first | (with_reducible first | exact HB.out | apply af | apply ab | apply ai | refine aD ?_ ev.out | refine aD ?_ jJ.out) | exact HB.out)) hb); clear az; clear dL; clear HB; have az := bR; have dL := bX; have HB := dh; clear bR bX dh; (try clear hb); (try clear eX); (try clear hk); (try clear hi)))
           go_meet
           case rel => exact ⟨_, (true), (by first | rfl | (simp; done) | (simp [*]; done)), H', ⟨by have := oB.out; have := lH.out; first | omega | exact Nat.le_refl _⟩, ⟨by (with_reducible repeat (first | refine ax ?_ _ | refine aG ?_ | refine ay ?_ _)); exact az.out⟩, ⟨by (with_reducible repeat (first | refine ax ?_ _ | refine aG ?_ | refine ay ?_ _)); exact dL.out⟩, ⟨by repeat (first | (with_reducible first | exact HB.out | apply af | apply ab | apply ai | refine aD ?_ ev.out | refine aD ?_ jJ.out) | exact HB.out)⟩⟩
         case rest =>
          clear K4
          obtain ⟨kq, zl, rfl, HA, Ia, az, dL, HB⟩ := hcut
          cases kq with
          | zero => exact absurd HA.out (by simp [ah.j2])
          | succ He =>
           have H := HA.out
           clear HA
           simp only [ah.j2] at H
           by_cases wL : zl = true
           ·subst wL
            have H1 : (some false) = some r := by rw [if_pos rfl] at H; exact H
            clear H
            have H := H1
            clear H1
            obtain rfl := Option.some.inj H
            go_wp2
            go_ret
            exact ⟨by first | rfl | (simp [bf, bd] <;> rfl) | (simp [*, bf, bd] <;> rfl), by repeat (first | (with_reducible first | exact HB.out | apply af | apply ab | apply ai | refine aD ?_ ev.out | refine aD ?_ jJ.out) | exact HB.out)⟩
           ·replace wL := Bool.eq_false_iff.mpr wL
            subst wL
            have H1 : (if 0 ≤ bD then (if bD ≤ (aE.length : Int) then ((some (aE.take (bD : Int).toNat : List (S76))).bind fun fa => (ah.l1 He aE (aE.length : Int) bD fa (fa.length : Int) 0 a6 a8 aW bb aE ((a9 aE bD).f0) ((a9 aE bD).f1))) else (none)) else (none)) = some r := by rw [if_neg (show ¬ (false = true) by decide)] at H; exact H
            clear H
            have H := H1
            clear H1
            by_cases vL : 0 ≤ bD
            ·rw [if_pos vL] at H
             have LI := eq_true vL
             have LH : decide (0 ≤ bD) = true := decide_eq_true vL
             clear vL
             by_cases vK : bD ≤ (aE.length : Int)
             ·rw [if_pos vK] at H
              have LG := eq_true vK
              have LF : decide (bD ≤ (aE.length : Int)) = true := decide_eq_true vK
              clear vK
              obtain ⟨fa, vF⟩ : ∃ y_ : List (S76), y_ = (aE.take (bD : Int).toNat) := ⟨_, rfl⟩
              replace H : (ah.l1 He aE (aE.length : Int) bD fa (fa.length : Int) 0 a6 a8 aW bb aE ((a9 aE bD).f0) ((a9 aE bD).f1)) = some r := by first | (rw [vF]; with_reducible exact H) | (have fx := (Option.bind_some _ _).symm.trans H; rw [vF]; with_reducible exact fx) | (have fx := (Option.bind_some _ _).symm.trans H; with_reducible exact fx) | with_reducible exact H | (rw [vF]; exact H) | exact H
              have GF := ak vF
              clear vF
              have H' := ak H
              clear H
              have ac8 := ir.out
              have ab3 := lx.out
              have XD : wc.cell? ⟨bh, 0, none⟩ = some (.int .u32 a6) := (al az.out 0).trans rfl
              have XC : wc.cell? ⟨bh, 1, none⟩ = some (.string a8) := (al az.out 1).trans rfl
              have XB : wc.cell? ⟨bh, 2, none⟩ = some (.slice dV aW.length dB) := (al az.out 2).trans rfl
              have XA : wc.cell? ⟨bh, 3, none⟩ = some (.slice cV bb.length cT) := (al az.out 3).trans rfl
              have Xz : wc.cell? ⟨bh, 4, none⟩ = some (.slice (some iu) aE.length cJ) := (al az.out 4).trans rfl
              have VM := aj az.out 0
              have VL := aj az.out 1
              have VK := aj az.out 2
              have VJ := aj az.out 3
              have VI := aj az.out 4
              have Qg : (bD : Int) ≤ ((aE.length : Int) : Int) := of_decide_eq_true (by first | (with_reducible assumption) | assumption)
              obtain ⟨af7, Ln, _, Sj, _⟩ := info_parts I2
              have F4 : aE.length ≤ cJ := wy.out
              have QQ : Kd.C ia _ (some iu) aE.length aE := qA.out
              have QH := Q8 (P := Try.prog) 49 76 .i64 Try.underlying49 Ln (some iu) aE.length cJ bD (of_decide_eq_true (by first | (with_reducible assumption) | assumption)) Qg F4
              have Ku := Kd.C_take (m := (bD : Int).toNat) QQ (by omega)
              have Kn : fa.length = (bD : Int).toNat := (by rw [GF.out, List.length_take]; omega)
              rw [← GF.out] at Ku
              rw [← Kn] at QH
              have GI := ak Ku
              have Yq := ak (show fa.length ≤ cJ from by omega)
              clear Ku QQ F4 Ln Sj
              have ah7 := ak Kn
              clear Kn
              replace Qg := eq_true Qg
              go_wp2
              go_loopg [58] He (fun kq YM w' => ∃ (fY : Int), YM = .int .i64 fY ∧ Aside0 (ah.l1 kq aE (aE.length : Int) bD fa (fa.length : Int) fY a6 a8 aW bb aE ((a9 aE bD).f0) ((a9 aE bD).f1) = some r) ∧ Aside0 (kq ≤ He) ∧ Aside0 (w'.heap[bh]? = some (.cells #[.int .u32 a6, .string a8, (.slice dV aW.length dB), (.slice cV bb.length cT), (.slice (some iu) aE.length cJ)] 62 (0, 0))) ∧ Aside0 (w'.heap[fy]? = some (.cells #[.string ((a9 aE bD).f0), .string ((a9 aE bD).f1)] 76 (0, 0))) ∧ Aside0 (Below w.heap.size w w'))
              case atStart => exact ⟨(0), (by first | rfl | (simp; done) | (simp [*]; done)), H', ⟨Nat.le_refl _⟩, ⟨by (with_reducible repeat (first | refine ax ?_ _ | refine aG ?_ | refine ay ?_ _)); exact az.out⟩, ⟨by (with_reducible repeat (first | refine ax ?_ _ | refine aG ?_ | refine ay ?_ _)); exact dL.out⟩, ⟨by repeat (first | (with_reducible first | exact HB.out | apply af | apply ab | apply ai | refine aD ?_ ev.out | refine aD ?_ jJ.out) | exact HB.out)⟩⟩
              case round =>
               clear H'
               obtain ⟨fY, rfl, HA, E8, az, dL, HB⟩ := hrel
               cases gk with
               | zero => exact absurd HA.out (by simp [ah.l1])
               | succ k4 =>
                have H := HA.out
                clear HA
                simp only [ah.l1] at H
                by_cases tr : fY < (fa.length : Int)
                ·rw [if_pos tr] at H
                 have Hu : decide (fY < (fa.length : Int)) = true := decide_eq_true tr
                 clear tr
                 by_cases wK : 0 ≤ fY
                 ·rw [if_pos wK] at H
                  have LD : decide (0 ≤ fY) = true := decide_eq_true wK
                  clear wK
                  by_cases wJ : fY < (fa.length : Int)
                  ·rw [if_pos wJ] at H
                   have LC : decide (fY < (fa.length : Int)) = true := decide_eq_true wJ
                   clear wJ
                   by_cases pF : ((((a9 fa fY).f0).toList) == ((a9 aE bD).f0).toList && ((((a9 fa fY).f1).toList) == ((a9 aE bD).f1).toList)) = true
                   ·rw [if_pos pF] at H
                    have Ht : ((((a9 fa fY).f0).toList) == ((a9 aE bD).f0).toList && ((((a9 fa fY).f1).toList) == ((a9 aE bD).f1).toList)) = true := pF
                    (try (have Hs : decide ((((a9 fa fY).f0).toList) = ((a9 aE bD).f0).toList && ((((a9 fa fY).f1).toList) == ((a9 aE bD).f1).toList)) = true := by simpa using pF))
                    (try (have SL : ((((a9 fa fY).f0).toList) == ((a9 aE bD).f0).toList && ((((a9 fa fY).f1).toList) == ((a9 aE bD).f1).toList)) = true := by simpa using pF))
                    clear pF
                    obtain rfl := Option.some.inj H
                    have sv : 0 ≤ (fY : Int) := of_decide_eq_true (by first | (with_reducible assumption) | assumption)
                    have sh : fY < (fa.length : Int) := of_decide_eq_true (by first | (with_reducible assumption) | assumption)
                    obtain ⟨B8, EB, nk, ni⟩ := sN GI.out fY sv sh
                    obtain rfl : iu = B8 := (by injection EB)
                    replace nk := (HB.out.cell (World.block_lt_of_cell? w _ nk)).trans nk
                    replace ni := (HB.out.cell (World.block_lt_of_cell? w _ ni)).trans ni
                    replace sv := eq_true sv
                    replace sh := eq_true sh
                    go_wp2_with (first | ((with_reducible refine aJ (N := 6) rfl ?_); (try (refine fk (by rfl) ?_; dsimp only)); refine eY ?hg (N := 6) ?hd (cs := #[.string (⟨#[]⟩ : ByteArray), .string (⟨#[]⟩ : ByteArray)]) (t := 76) ?hr ?_; (case hd => rfl); (case hg => rfl); (case hr => first | (go_simp; done) | (go_simp; rfl)); intro iQ hg Lc hbox hb; have bR := ak (eh (g := bh) (o := .cells #[.int .u32 a6, .string a8, .slice dV aW.length dB, .slice cV bb.length cT, .slice (some iu) aE.length cJ] 62 (0, 0)) (by (with_reducible repeat (first | refine ax ?_ _ | refine aG ?_ | refine ay ?_ _)); exact az.out) hb); have bX := ak (eh (g := fy) (o := .cells #[.string ((a9 aE bD).f0), .string ((a9 aE bD).f1)] 76 (0, 0)) (by (with_reducible repeat (first | refine ax ?_ _ | refine aG ?_ | refine ay ?_ _)); exact dL.out) hb); have dh := ak (bA (by repeat (first | (with_reducible first | exact HB.out | apply af | apply ab | apply ai | refine aD ?_ ev.out | refine aD ?_ jJ.out) | exact HB.out)) hb); have dX := ak (hbox); have iE := ak ((by rw [hg]; exact (bo (by repeat (first | (with_reducible first | exact HB.out | apply af | apply ab | apply ai | refine aD ?_ ev.out | refine aD ?_ jJ.out) | exact HB.out))) : w.heap.size ≤ iQ)); have kL := ak ((by rw [hg]; exact (bo (by repeat (first | (with_reducible first | exact HB.out | apply af | apply ab | apply ai | refine aD ?_ ev.out | refine aD ?_ jJ.out) | exact HB.out))) : w.heap.size ≤ iQ)); have l5 := ak ((by rw [hg]; exact Nat.ne_of_lt (gu (g := bh) (o := .cells #[.int .u32 a6, .string a8, .slice dV aW.length dB, .slice cV bb.length cT, .slice (some iu) aE.length cJ] 62 (0, 0)) (by (with_reducible repeat (first | refine ax ?_ _ | refine aG ?_ | refine ay ?_ _)); exact az.out)) : bh ≠ iQ)); have IY := ak ((by rw [hg]; exact Nat.ne_of_gt (gu (g := bh) (o := .cells #[.int .u32 a6, .string a8, .slice dV aW.length dB, .slice cV bb.length cT, .slice (some iu) aE.length cJ] 62 (0, 0)) (by (with_reducible repeat (first | refine ax ?_ _ | refine aG ?_ | refine ay ?_ _)); exact az.out)) : iQ ≠ bh)); have IX := ak ((by rw [hg]; exact Nat.ne_of_lt (gu (g := fy) (o := .cells #[.string ((a9 aE bD).f0), .string ((a9 aE bD).f1)] 76 (0, 0)) (by (with_reducible repeat (first | refine ax ?_ _ | refine aG ?_ | refine ay ?_ _)); exact dL.out)) : fy ≠ iQ)); have IW := ak ((by rw [hg]; exact Nat.ne_of_gt (gu (g := fy) (o := .cells #[.string ((a9 aE bD).f0), .string ((a9 aE bD).f1)] 76 (0, 0)) (by (with_reducible repeat (first | refine ax ?_ _ | refine aG ?_ | refine ay ?_ _)); exact dL.out)) : iQ ≠ fy)); clear az; clear dL; clear HB; have az := bR; have dL := bX; have HB := dh; have n2 := dX; have PU := iE; have Cb := kL; have mF := l5; have rb := IY; have mE := IX; have ra := IW; clear bR bX dh dX iE kL l5 IY IX IW; clear hb hbox hg; have ac7 := rb.out; have ab2 := mF.out; have ac6 := ra.out; have ab1 := mE.out; have Xy : Lc.cell? ⟨iQ, 0, none⟩ = some (.string (⟨#[]⟩ : ByteArray)) := (al n2.out 0).trans rfl; have Xx : Lc.cell? ⟨iQ, 1, none⟩ = some (.string (⟨#[]⟩ : ByteArray)) := (al n2.out 1).trans rfl; have VH := aj n2.out 0; have VG := aj n2.out 1; have ac5 := lx.out; have ab0 := ir.out; have Xw : Lc.cell? ⟨fy, 0, none⟩ = some (.string ((a9 aE bD).f0)) := (al dL.out 0).trans rfl; have Xv : Lc.cell? ⟨fy, 1, none⟩ = some (.string ((a9 aE bD).f1)) := (al dL.out 1).trans rfl; have VF := aj dL.out 0; have VE := aj dL.out 1))
                    go_ret
                    exact ⟨by first | rfl | (simp [bf, bd] <;> rfl) | (simp [*, bf, bd] <;> rfl), by repeat (first | (with_reducible first | exact HB.out | apply af | apply ab | apply ai | refine aD ?_ ev.out | refine aD ?_ jJ.out | refine aD ?_ Cb.out) | exact HB.out)⟩
                   ·rw [if_neg pF] at H
                    have Ht : ((((a9 fa fY).f0).toList) == ((a9 aE bD).f0).toList && ((((a9 fa fY).f1).toList) == ((a9 aE bD).f1).toList)) = false := by simpa using pF
                    (try (have Hs : decide ((((a9 fa fY).f0).toList) = ((a9 aE bD).f0).toList && ((((a9 fa fY).f1).toList) == ((a9 aE bD).f1).toList)) = false := by simpa using pF))
                    (try (have SL : ((((a9 fa fY).f0).toList) == ((a9 aE bD).f0).toList && ((((a9 fa fY).f1).toList) == ((a9 aE bD).f1).toList)) = false := by simpa using pF))
                    (try (have af1 : ¬ ((((a9 fa fY).f0).toList) = ((a9 aE bD).f0).toList && ((((a9 fa fY).f1).toList) == ((a9 aE bD).f1).toList)) := by simpa using pF))
                    clear pF
                    have H' := ak H
                    clear H
                    have sv : 0 ≤ (fY : Int) := of_decide_eq_true (by first | (with_reducible assumption) | assumption)
                    have sh : fY < (fa.length : Int) := of_decide_eq_true (by first | (with_reducible assumption) | assumption)
                    obtain ⟨B8, EB, nk, ni⟩ := sN GI.out fY sv sh
                    obtain rfl : iu = B8 := (by injection EB)
                    replace nk := (HB.out.cell (World.block_lt_of_cell? w _ nk)).trans nk
                    replace ni := (HB.out.cell (World.block_lt_of_cell? w _ ni)).trans ni
                    replace sv := eq_true sv
                    replace sh := eq_true sh
                    go_wp2_with (first | ((with_reducible refine aJ (N := 6) rfl ?_); (try (refine fk (by rfl) ?_; dsimp only)); refine eY ?hg (N := 6) ?hd (cs := #[.string (⟨#[]⟩ : ByteArray), .string (⟨#[]⟩ : ByteArray)]) (t := 76) ?hr ?_; (case hd => rfl); (case hg => rfl); (case hr => first | (go_simp; done) | (go_simp; rfl)); intro iQ hg Lb hbox hb; have bR := ak (eh (g := bh) (o := .cells #[.int .u32 a6, .string a8, .slice dV aW.length dB, .slice cV bb.length cT, .slice (some iu) aE.length cJ] 62 (0, 0)) (by (with_reducible repeat (first | refine ax ?_ _ | refine aG ?_ | refine ay ?_ _)); exact az.out) hb); have bX := ak (eh (g := fy) (o := .cells #[.string ((a9 aE bD).f0), .string ((a9 aE bD).f1)] 76 (0, 0)) (by (with_reducible repeat (first | refine ax ?_ _ | refine aG ?_ | refine ay ?_ _)); exact dL.out) hb); have dh := ak (bA (by repeat (first | (with_reducible first | exact HB.out | apply af | apply ab | apply ai | refine aD ?_ ev.out | refine aD ?_ jJ.out) | exact HB.out)) hb); have dX := ak (hbox); have iE := ak ((by rw [hg]; exact (bo (by repeat (first | (with_reducible first | exact HB.out | apply af | apply ab | apply ai | refine aD ?_ ev.out | refine aD ?_ jJ.out) | exact HB.out))) : w.heap.size ≤ iQ)); have kL := ak ((by rw [hg]; exact (bo (by repeat (first | (with_reducible first | exact HB.out | apply af | apply ab | apply ai | refine aD ?_ ev.out | refine aD ?_ jJ.out) | exact HB.out))) : w.heap.size ≤ iQ)); have l5 := ak ((by rw [hg]; exact Nat.ne_of_lt (gu (g := bh) (o := .cells #[.int .u32 a6, .string a8, .slice dV aW.length dB, .slice cV bb.length cT, .slice (some iu) aE.length cJ] 62 (0, 0)) (by (with_reducible repeat (first | refine ax ?_ _ | refine aG ?_ | refine ay ?_ _)); exact az.out)) : bh ≠ iQ)); have IY := ak ((by rw [hg]; exact Nat.ne_of_gt (gu (g := bh) (o := .cells #[.int .u32 a6, .string a8, .slice dV aW.length dB, .slice cV bb.length cT, .slice (some iu) aE.length cJ] 62 (0, 0)) (by (with_reducible repeat (first | refine ax ?_ _ | refine aG ?_ | refine ay ?_ _)); exact az.out)) : iQ ≠ bh)); have IX := ak ((by rw [hg]; exact Nat.ne_of_lt (gu (g := fy) (o := .cells #[.string ((a9 aE bD).f0), .string ((a9 aE bD).f1)] 76 (0, 0)) (by (with_reducible repeat (first | refine ax ?_ _ | refine aG ?_ | refine ay ?_ _)); exact dL.out)) : fy ≠ iQ)); have IW := ak ((by rw [hg]; exact Nat.ne_of_gt (gu (g := fy) (o := .cells #[.string ((a9 aE bD).f0), .string ((a9 aE bD).f1)] 76 (0, 0)) (by (with_reducible repeat (first | refine ax ?_ _ | refine aG ?_ | refine ay ?_ _)); exact dL.out)) : iQ ≠ fy)); clear az; clear dL; clear HB; have az := bR; have dL := bX; have HB := dh; have n2 := dX; have PU := iE; have Cb := kL; have mF := l5; have rb := IY; have mE := IX; have ra := IW; clear bR bX dh dX iE kL l5 IY IX IW; clear hb hbox hg; have ac4 := rb.out; have aa9 := mF.out; have ac3 := ra.out; have aa8 := mE.out; have Xu : Lb.cell? ⟨iQ, 0, none⟩ = some (.string (⟨#[]⟩ : ByteArray)) := (al n2.out 0).trans rfl; have Xt : Lb.cell? ⟨iQ, 1, none⟩ = some (.string (⟨#[]⟩ : ByteArray)) := (al n2.out 1).trans rfl; have VD := aj n2.out 0; have VC := aj n2.out 1; have ac2 := lx.out; have aa7 := ir.out; have Xs : Lb.cell? ⟨fy, 0, none⟩ = some (.string ((a9 aE bD).f0)) := (al dL.out 0).trans rfl; have Xr : Lb.cell? ⟨fy, 1, none⟩ = some (.string ((a9 aE bD).f1)) := (al dL.out 1).trans rfl; have VB := aj dL.out 0; have VA := aj dL.out 1))
                    go_roundg k4
                    case measure => have := oB.out; have := lH.out; have := Ia.out; have := E8.out; omega
                    case rel => exact ⟨(wrap64 (fY + 1)), (by first | rfl | (simp; done) | (simp [*]; done)), H', ⟨by have := oB.out; have := lH.out; have := Ia.out; have := E8.out; omega⟩, ⟨by (with_reducible repeat (first | refine ax ?_ _ | refine aG ?_ | refine ay ?_ _)); refine iG ?_ mF.out _; (with_reducible repeat (first | refine ax ?_ _ | refine aG ?_ | refine ay ?_ _)); refine iG ?_ mF.out _; (with_reducible repeat (first | refine ax ?_ _ | refine aG ?_ | refine ay ?_ _)); exact az.out⟩, ⟨by (with_reducible repeat (first | refine ax ?_ _ | refine aG ?_ | refine ay ?_ _)); refine iG ?_ mE.out _; (with_reducible repeat (first | refine ax ?_ _ | refine aG ?_ | refine ay ?_ _)); refine iG ?_ mE.out _; (with_reducible repeat (first | refine ax ?_ _ | refine aG ?_ | refine ay ?_ _)); exact dL.out⟩, ⟨by repeat (first | (with_reducible first | exact HB.out | apply af | apply ab | apply ai | refine aD ?_ ev.out | refine aD ?_ jJ.out | refine aD ?_ Cb.out) | exact HB.out)⟩⟩
                  ·rw [if_neg wJ] at H
                   exact absurd H (by simp)
                 ·rw [if_neg wK] at H
                  exact absurd H (by simp)
                ·rw [if_neg tr] at H
                 have Hu : decide (fY < (fa.length : Int)) = false := decide_eq_false tr
                 clear tr
                 have H' := ak H
                 clear H
                 go_wp2
                 go_roundg k4
                 case measure => have := oB.out; have := lH.out; have := Ia.out; have := E8.out; omega
                 case rel => exact ⟨(wrap64 (bD + 1)), (by first | rfl | (simp; done) | (simp [*]; done)), H', ⟨by have := oB.out; have := lH.out; have := Ia.out; have := E8.out; omega⟩, ⟨by (with_reducible repeat (first | refine ax ?_ _ | refine aG ?_ | refine ay ?_ _)); exact az.out⟩, ⟨by repeat (first | (with_reducible first | exact HB.out | apply af | apply ab | apply ai | refine aD ?_ ev.out | refine aD ?_ jJ.out) | exact HB.out)⟩⟩
             ·rw [if_neg vK] at H
              exact absurd H (by simp)
            ·rw [if_neg vL] at H
             exact absurd H (by simp)
        ·rw [if_neg wN] at H
         exact absurd H (by simp)
       ·rw [if_neg wO] at H
        exact absurd H (by simp)
      ·rw [if_neg tt] at H
       have Hv : decide (bD < (aE.length : Int)) = false := decide_eq_false tt
       clear tt
       have H' := ak H
       clear H
       have Xq : wr.cell? ⟨bh, 0, none⟩ = some (.int .u32 a6) := (al az.out 0).trans rfl
       have Xp : wr.cell? ⟨bh, 1, none⟩ = some (.string a8) := (al az.out 1).trans rfl
       have Xo : wr.cell? ⟨bh, 2, none⟩ = some (.slice dV aW.length dB) := (al az.out 2).trans rfl
       have Xn : wr.cell? ⟨bh, 3, none⟩ = some (.slice cV bb.length cT) := (al az.out 3).trans rfl
       have Xm : wr.cell? ⟨bh, 4, none⟩ = some (.slice dU aE.length cJ) := (al az.out 4).trans rfl
       have Vz := aj az.out 0
       have Vy := aj az.out 1
       have Vx := aj az.out 2
       have Vw := aj az.out 3
       have Vv := aj az.out 4
       go_wp2
       go_loopg [70] k2 (fun kq YJ w' => ∃ (fh : Int), YJ = .int .i64 fh ∧ Aside0 (ah.l2 kq aW (aW.length : Int) fh a6 a8 aW bb aE = some r) ∧ Aside0 (kq ≤ k2) ∧ Aside0 (w'.heap[bh]? = some (.cells #[.int .u32 a6, .string a8, (.slice dV aW.length dB), (.slice cV bb.length cT), (.slice dU aE.length cJ)] 62 (0, 0))) ∧ Aside0 (Below w.heap.size w w'))
       case atStart => exact ⟨(0), (by first | rfl | (simp; done) | (simp [*]; done)), H', ⟨Nat.le_refl _⟩, ⟨by (with_reducible repeat (first | refine ax ?_ _ | refine aG ?_ | refine ay ?_ _)); exact az.out⟩, ⟨by repeat (first | (with_reducible first | exact HB.out | apply af | apply ab | apply ai | refine aD ?_ ev.out) | exact HB.out)⟩⟩
       case round =>
        clear H'
        obtain ⟨fh, rfl, HA, yK, az, HB⟩ := hrel
        cases gk with
        | zero => exact absurd HA.out (by simp [ah.l2])
        | succ k3 =>
         have H := HA.out
         clear HA
         simp only [ah.l2] at H
         by_cases Gk : fh < (aW.length : Int)
         ·rw [if_pos Gk] at H
          have SE : decide (fh < (aW.length : Int)) = true := decide_eq_true Gk
          clear Gk
          by_cases LB : 0 ≤ fh
          ·rw [if_pos LB] at H
           have af0 : decide (0 ≤ fh) = true := decide_eq_true LB
           clear LB
           by_cases Lz : fh < (aW.length : Int)
           ·rw [if_pos Lz] at H
            have ae9 : decide (fh < (aW.length : Int)) = true := decide_eq_true Lz
            clear Lz
            have K3 := ak H
            clear H
            have DI : 0 ≤ (fh : Int) := of_decide_eq_true (by first | (with_reducible assumption) | assumption)
            have DC : fh < (aW.length : Int) := of_decide_eq_true (by first | (with_reducible assumption) | assumption)
            obtain ⟨rM, QX, xr⟩ := Kd.at_int oG.out fh DI DC
            cases QX
            replace xr := (HB.out.cell (World.block_lt_of_cell? w _ xr)).trans xr
            replace DI := eq_true DI
            replace DC := eq_true DC
            go_upto_region 18 with (fail)
            go_cut [83] (fun YI wc => ∃ (kq : Nat) (zk : Bool), YI = .bool zk ∧ Aside0 (ah.j5 kq fh (rd aW fh) aW (aW.length : Int) fh zk a6 a8 aW bb aE = some r) ∧ Aside0 (kq ≤ k3) ∧ Aside0 (wc.heap[bh]? = some (.cells #[.int .u32 a6, .string a8, (.slice (some rM) aW.length dB), (.slice cV bb.length cT), (.slice dU aE.length cJ)] 62 (0, 0))) ∧ Aside0 (Below w.heap.size w wc))
            case first =>
             have H := K3.out
             clear K3
             by_cases Gj : (rd aW fh) < 0
             ·rw [if_pos Gj] at H
              have zN : decide ((rd aW fh) < 0) = true := decide_eq_true Gj
              clear Gj
              (first | rw [zN] | (simp only [iT, jx]; rw [zN]) | skip)
              have H' := ak H
              clear H
              go_wp2
              go_meet
              case rel => exact ⟨_, (true), (by first | rfl | (simp; done) | (simp [*]; done)), H', ⟨by have := oB.out; have := lH.out; have := yK.out; first | omega | exact Nat.le_refl _⟩, ⟨by (with_reducible repeat (first | refine ax ?_ _ | refine aG ?_ | refine ay ?_ _)); exact az.out⟩, ⟨by repeat (first | (with_reducible first | exact HB.out | apply af | apply ab | apply ai | refine aD ?_ ev.out) | exact HB.out)⟩⟩
             ·rw [if_neg Gj] at H
              have zN : decide ((rd aW fh) < 0) = false := decide_eq_false Gj
              clear Gj
              (first | rw [zN] | (simp only [iT, jx]; rw [zN]) | skip)
              have H' := ak H
              clear H
              have Xl : wr.cell? ⟨bh, 0, none⟩ = some (.int .u32 a6) := (al az.out 0).trans rfl
              have Xk : wr.cell? ⟨bh, 1, none⟩ = some (.string a8) := (al az.out 1).trans rfl
              have Xj : wr.cell? ⟨bh, 2, none⟩ = some (.slice (some rM) aW.length dB) := (al az.out 2).trans rfl
              have Xi : wr.cell? ⟨bh, 3, none⟩ = some (.slice cV bb.length cT) := (al az.out 3).trans rfl
              have Xh : wr.cell? ⟨bh, 4, none⟩ = some (.slice dU aE.length cJ) := (al az.out 4).trans rfl
              have Vu := aj az.out 0
              have Vt := aj az.out 1
              have Vs := aj az.out 2
              have Vr := aj az.out 3
              have Vq := aj az.out 4
              go_wp2
              go_meet
              case rel => exact ⟨_, (decide ((rd aW fh) > (aE.length : Int))), (by first | rfl | (simp; done) | (simp [*]; done)), H', ⟨by have := oB.out; have := lH.out; have := yK.out; first | omega | exact Nat.le_refl _⟩, ⟨by (with_reducible repeat (first | refine ax ?_ _ | refine aG ?_ | refine ay ?_ _)); exact az.out⟩, ⟨by repeat (first | (with_reducible first | exact HB.out | apply af | apply ab | apply ai | refine aD ?_ ev.out) | exact HB.out)⟩⟩
            case rest =>
             clear K3
             obtain ⟨kq, zk, rfl, HA, H9, az, HB⟩ := hcut
             cases kq with
             | zero => exact absurd HA.out (by simp [ah.j5])
             | succ qZ =>
              have H := HA.out
              clear HA
              simp only [ah.j5] at H
              by_cases Ly : zk = true
              ·subst Ly
               have H1 : (some false) = some r := by rw [if_pos rfl] at H; exact H
               clear H
               have H := H1
               clear H1
               obtain rfl := Option.some.inj H
               go_wp2
               go_ret
               exact ⟨by first | rfl | (simp [bf, bd] <;> rfl) | (simp [*, bf, bd] <;> rfl), by repeat (first | (with_reducible first | exact HB.out | apply af | apply ab | apply ai | refine aD ?_ ev.out) | exact HB.out)⟩
              ·replace Ly := Bool.eq_false_iff.mpr Ly
               subst Ly
               have H1 : (if (rd aW fh) = 0 then ((aM.f qZ bb fh).bind fun mo => (if mo = 1 then (ah.l2 qZ aW (aW.length : Int) (wrap64 (fh + 1)) a6 a8 aW bb aE) else (some false))) else ((aM.f qZ bb fh).bind fun mm => (if mm = 0 then (ah.l2 qZ aW (aW.length : Int) (wrap64 (fh + 1)) a6 a8 aW bb aE) else (some false)))) = some r := by rw [if_neg (show ¬ (false = true) by decide)] at H; exact H
               clear H
               have H := H1
               clear H1
               by_cases EJ : (rd aW fh) = 0
               ·rw [if_pos EJ] at H
                have SD : ((rd aW fh) == 0) = true := beq_iff_eq.mpr EJ
                have SC : ((rd aW fh) != 0) = false := bne_eq_false_iff_eq.mpr EJ
                clear EJ
                replace H := Option.bind_eq_some_iff.mp H
                obtain ⟨mo, R8, H⟩ := H
                replace H : (if mo = 1 then (ah.l2 qZ aW (aW.length : Int) (wrap64 (fh + 1)) a6 a8 aW bb aE) else (some false)) = some r := H
                have Uf := ak R8
                clear R8
                by_cases EI : mo = 1
                ·rw [if_pos EI] at H
                 have SB : (mo == 1) = true := beq_iff_eq.mpr EI
                 have SA : (mo != 1) = false := bne_eq_false_iff_eq.mpr EI
                 clear EI
                 have H' := ak H
                 clear H
                 have Xg : wc.cell? ⟨bh, 0, none⟩ = some (.int .u32 a6) := (al az.out 0).trans rfl
                 have Xf : wc.cell? ⟨bh, 1, none⟩ = some (.string a8) := (al az.out 1).trans rfl
                 have Xe : wc.cell? ⟨bh, 2, none⟩ = some (.slice (some rM) aW.length dB) := (al az.out 2).trans rfl
                 have Xd : wc.cell? ⟨bh, 3, none⟩ = some (.slice cV bb.length cT) := (al az.out 3).trans rfl
                 have Xc : wc.cell? ⟨bh, 4, none⟩ = some (.slice dU aE.length cJ) := (al az.out 4).trans rfl
                 have Vp := aj az.out 0
                 have Vo := aj az.out 1
                 have Vn := aj az.out 2
                 have Vm := aj az.out 3
                 have Vl := aj az.out 4
                 go_wp2_with (first | ((with_reducible refine dp (f := 68) rfl ?_); refine fQ (some 89) rfl rfl Try.func68 (by kernel_rfl) rfl #[.slice cV bb.length cT, .int .i64 fh] rfl (by (try simp only [List.map_toArray, List.map_cons, List.map_nil]); first | done | rfl | (simp only [List.length_drop, List.length_take]; rfl)) ?_; (with_reducible refine (aM.calls qZ _ _ bb fh mo _ ?side1 ?side2 Uf.out).mono ?_); (case side1 => repeat (first | exact (Kd.C_below mY.out HB.out) | (with_reducible refine Kd.C_alloc ?_ _) | (with_reducible refine Kd.C_drewN ?_ _) | (with_reducible refine Kd.C_drew ?_))); (case side2 => exact qC.out); rintro e w' ⟨rfl, ⟨nd, rfl⟩⟩; refine ⟨_, rfl, ?_⟩))
                 go_roundg qZ
                 case measure => have := oB.out; have := lH.out; have := yK.out; have := H9.out; omega
                 case rel => exact ⟨(wrap64 (fh + 1)), (by first | rfl | (simp; done) | (simp [*]; done)), H', ⟨by have := oB.out; have := lH.out; have := yK.out; have := H9.out; omega⟩, ⟨by (with_reducible repeat (first | refine ax ?_ _ | refine aG ?_ | refine ay ?_ _)); exact az.out⟩, ⟨by repeat (first | (with_reducible first | exact HB.out | apply af | apply ab | apply ai | refine aD ?_ ev.out) | exact HB.out)⟩⟩
                ·rw [if_neg EI] at H
                 have SB : (mo == 1) = false := beq_eq_false_iff_ne.mpr EI
                 have SA : (mo != 1) = true := bne_iff_ne.mpr EI
                 obtain rfl := Option.some.inj H
                 have Xb : wc.cell? ⟨bh, 0, none⟩ = some (.int .u32 a6) := (al az.out 0).trans rfl
                 have Xa : wc.cell? ⟨bh, 1, none⟩ = some (.string a8) := (al az.out 1).trans rfl
                 have W0 : wc.cell? ⟨bh, 2, none⟩ = some (.slice (some rM) aW.length dB) := (al az.out 2).trans rfl
                 have WZ : wc.cell? ⟨bh, 3, none⟩ = some (.slice cV bb.length cT) := (al az.out 3).trans rfl
                 have WY : wc.cell? ⟨bh, 4, none⟩ = some (.slice dU aE.length cJ) := (al az.out 4).trans rfl
                 have Vk := aj az.out 0
                 have Vj := aj az.out 1
                 have Vi := aj az.out 2
                 have Vh := aj az.out 3
                 have Vg := aj az.out 4
                 go_wp2_with (first | ((with_reducible refine dp (f := 68) rfl ?_); refine fQ (some 89) rfl rfl Try.func68 (by kernel_rfl) rfl #[.slice cV bb.length cT, .int .i64 fh] rfl (by (try simp only [List.map_toArray, List.map_cons, List.map_nil]); first | done | rfl | (simp only [List.length_drop, List.length_take]; rfl)) ?_; (with_reducible refine (aM.calls qZ _ _ bb fh mo _ ?side1 ?side2 Uf.out).mono ?_); (case side1 => repeat (first | exact (Kd.C_below mY.out HB.out) | (with_reducible refine Kd.C_alloc ?_ _) | (with_reducible refine Kd.C_drewN ?_ _) | (with_reducible refine Kd.C_drew ?_))); (case side2 => exact qC.out); rintro e w' ⟨rfl, ⟨nd, rfl⟩⟩; refine ⟨_, rfl, ?_⟩))
                 go_ret
                 exact ⟨by first | rfl | (simp [bf, bd] <;> rfl) | (simp [*, bf, bd] <;> rfl), by repeat (first | (with_reducible first | exact HB.out | apply af | apply ab | apply ai | refine aD ?_ ev.out) | exact HB.out)⟩
               ·rw [if_neg EJ] at H
                have SD : ((rd aW fh) == 0) = false := beq_eq_false_iff_ne.mpr EJ
                have SC : ((rd aW fh) != 0) = true := bne_iff_ne.mpr EJ
                replace H := Option.bind_eq_some_iff.mp H
                obtain ⟨mm, R7, H⟩ := H
                replace H : (if mm = 0 then (ah.l2 qZ aW (aW.length : Int) (wrap64 (fh + 1)) a6 a8 aW bb aE) else (some false)) = some r := H
                have Ue := ak R7
                clear R7
                by_cases EH : mm = 0
                ·rw [if_pos EH] at H
                 have Sz : (mm == 0) = true := beq_iff_eq.mpr EH
                 have Sy : (mm != 0) = false := bne_eq_false_iff_eq.mpr EH
                 clear EH
                 have H' := ak H
                 clear H
                 have WX : wc.cell? ⟨bh, 0, none⟩ = some (.int .u32 a6) := (al az.out 0).trans rfl
                 have WW : wc.cell? ⟨bh, 1, none⟩ = some (.string a8) := (al az.out 1).trans rfl
                 have WV : wc.cell? ⟨bh, 2, none⟩ = some (.slice (some rM) aW.length dB) := (al az.out 2).trans rfl
                 have WU : wc.cell? ⟨bh, 3, none⟩ = some (.slice cV bb.length cT) := (al az.out 3).trans rfl
                 have WT : wc.cell? ⟨bh, 4, none⟩ = some (.slice dU aE.length cJ) := (al az.out 4).trans rfl
                 have Vf := aj az.out 0
                 have Ve := aj az.out 1
                 have Vd := aj az.out 2
                 have Vc := aj az.out 3
                 have Vb := aj az.out 4
                 go_wp2_with (first | ((with_reducible refine dp (f := 68) rfl ?_); refine fQ (some 89) rfl rfl Try.func68 (by kernel_rfl) rfl #[.slice cV bb.length cT, .int .i64 fh] rfl (by (try simp only [List.map_toArray, List.map_cons, List.map_nil]); first | done | rfl | (simp only [List.length_drop, List.length_take]; rfl)) ?_; (with_reducible refine (aM.calls qZ _ _ bb fh mm _ ?side1 ?side2 Ue.out).mono ?_); (case side1 => repeat (first | exact (Kd.C_below mY.out HB.out) | (with_reducible refine Kd.C_alloc ?_ _) | (with_reducible refine Kd.C_drewN ?_ _) | (with_reducible refine Kd.C_drew ?_))); (case side2 => exact qC.out); rintro e w' ⟨rfl, ⟨nd, rfl⟩⟩; refine ⟨_, rfl, ?_⟩))
                 go_roundg qZ
                 case measure => have := oB.out; have := lH.out; have := yK.out; have := H9.out; omega
                 case rel => exact ⟨(wrap64 (fh + 1)), (by first | rfl | (simp; done) | (simp [*]; done)), H', ⟨by have := oB.out; have := lH.out; have := yK.out; have := H9.out; omega⟩, ⟨by (with_reducible repeat (first | refine ax ?_ _ | refine aG ?_ | refine ay ?_ _)); exact az.out⟩, ⟨by repeat (first | (with_reducible first | exact HB.out | apply af | apply ab | apply ai | refine aD ?_ ev.out) | exact HB.out)⟩⟩
                ·rw [if_neg EH] at H
                 have Sz : (mm == 0) = false := beq_eq_false_iff_ne.mpr EH
                 have Sy : (mm != 0) = true := bne_iff_ne.mpr EH
                 obtain rfl := Option.some.inj H
                 have WS : wc.cell? ⟨bh, 0, none⟩ = some (.int .u32 a6) := (al az.out 0).trans rfl
                 have WR : wc.cell? ⟨bh, 1, none⟩ = some (.string a8) := (al az.out 1).trans rfl
                 have WQ : wc.cell? ⟨bh, 2, none⟩ = some (.slice (some rM) aW.length dB) := (al az.out 2).trans rfl
                 have WO : wc.cell? ⟨bh, 3, none⟩ = some (.slice cV bb.length cT) := (al az.out 3).trans rfl
                 have WN : wc.cell? ⟨bh, 4, none⟩ = some (.slice dU aE.length cJ) := (al az.out 4).trans rfl
                 have Va := aj az.out 0
                 have U9 := aj az.out 1
                 have U8 := aj az.out 2
                 have U7 := aj az.out 3
                 have U6 := aj az.out 4
                 go_wp2_with (first | ((with_reducible refine dp (f := 68) rfl ?_); refine fQ (some 89) rfl rfl Try.func68 (by kernel_rfl) rfl #[.slice cV bb.length cT, .int .i64 fh] rfl (by (try simp only [List.map_toArray, List.map_cons, List.map_nil]); first | done | rfl | (simp only [List.length_drop, List.length_take]; rfl)) ?_; (with_reducible refine (aM.calls qZ _ _ bb fh mm _ ?side1 ?side2 Ue.out).mono ?_); (case side1 => repeat (first | exact (Kd.C_below mY.out HB.out) | (with_reducible refine Kd.C_alloc ?_ _) | (with_reducible refine Kd.C_drewN ?_ _) | (with_reducible refine Kd.C_drew ?_))); (case side2 => exact qC.out); rintro e w' ⟨rfl, ⟨nd, rfl⟩⟩; refine ⟨_, rfl, ?_⟩))
                 go_ret
                 exact ⟨by first | rfl | (simp [bf, bd] <;> rfl) | (simp [*, bf, bd] <;> rfl), by repeat (first | (with_reducible first | exact HB.out | apply af | apply ab | apply ai | refine aD ?_ ev.out) | exact HB.out)⟩
           ·rw [if_neg Lz] at H
            exact absurd H (by simp)
          ·rw [if_neg LB] at H
           exact absurd H (by simp)
         ·rw [if_neg Gk] at H
          have SE : decide (fh < (aW.length : Int)) = false := decide_eq_false Gk
          clear Gk
          have H' := ak H
          clear H
          have WM : wr.cell? ⟨bh, 0, none⟩ = some (.int .u32 a6) := (al az.out 0).trans rfl
          have WL : wr.cell? ⟨bh, 1, none⟩ = some (.string a8) := (al az.out 1).trans rfl
          have WK : wr.cell? ⟨bh, 2, none⟩ = some (.slice dV aW.length dB) := (al az.out 2).trans rfl
          have WJ : wr.cell? ⟨bh, 3, none⟩ = some (.slice cV bb.length cT) := (al az.out 3).trans rfl
          have WI : wr.cell? ⟨bh, 4, none⟩ = some (.slice dU aE.length cJ) := (al az.out 4).trans rfl
          have U5 := aj az.out 0
          have U4 := aj az.out 1
          have U3 := aj az.out 2
          have U2 := aj az.out 3
          have U1 := aj az.out 4
          go_wp2
          go_loopg [96] k3 (fun kq YE w' => ∃ (iB : Int), YE = .int .i64 iB ∧ Aside0 (ah.l3 kq bb (bb.length : Int) iB = some r) ∧ Aside0 (kq ≤ k3) ∧ Aside0 (w'.heap[bh]? = some (.cells #[.int .u32 a6, .string a8, (.slice dV aW.length dB), (.slice cV bb.length cT), (.slice dU aE.length cJ)] 62 (0, 0))) ∧ Aside0 (Below w.heap.size w w'))
          case atStart => exact ⟨(0), (by first | rfl | (simp; done) | (simp [*]; done)), H', ⟨Nat.le_refl _⟩, ⟨by (with_reducible repeat (first | refine ax ?_ _ | refine aG ?_ | refine ay ?_ _)); exact az.out⟩, ⟨by repeat (first | (with_reducible first | exact HB.out | apply af | apply ab | apply ai | refine aD ?_ ev.out) | exact HB.out)⟩⟩
          case round =>
           clear H'
           obtain ⟨iB, rfl, HA, E8, az, HB⟩ := hrel
           cases gk with
           | zero => exact absurd HA.out (by simp [ah.l3])
           | succ k4 =>
            have H := HA.out
            clear HA
            simp only [ah.l3] at H
            by_cases Gi : iB < (bb.length : Int)
            ·rw [if_pos Gi] at H
             have Sx : decide (iB < (bb.length : Int)) = true := decide_eq_true Gi
             clear Gi
             by_cases Lx : 0 ≤ iB
             ·rw [if_pos Lx] at H
              have ae8 : decide (0 ≤ iB) = true := decide_eq_true Lx
              clear Lx
              by_cases Lw : iB < (bb.length : Int)
              ·rw [if_pos Lw] at H
               have ae7 : decide (iB < (bb.length : Int)) = true := decide_eq_true Lw
               clear Lw
               by_cases Gh : (rd bb iB) < 0
               ·rw [if_pos Gh] at H
                have Sw : decide ((rd bb iB) < 0) = true := decide_eq_true Gh
                clear Gh
                obtain rfl := Option.some.inj H
                have m9 : 0 ≤ (iB : Int) := of_decide_eq_true (by first | (with_reducible assumption) | assumption)
                have m8 : iB < (bb.length : Int) := of_decide_eq_true (by first | (with_reducible assumption) | assumption)
                obtain ⟨Gv, xA, jY⟩ := Kd.at_int mY.out iB m9 m8
                cases xA
                replace jY := (HB.out.cell (World.block_lt_of_cell? w _ jY)).trans jY
                replace m9 := eq_true m9
                replace m8 := eq_true m8
                go_wp2
                go_ret
                exact ⟨by first | rfl | (simp [bf, bd] <;> rfl) | (simp [*, bf, bd] <;> rfl), by repeat (first | (with_reducible first | exact HB.out | apply af | apply ab | apply ai | refine aD ?_ ev.out) | exact HB.out)⟩
               ·rw [if_neg Gh] at H
                have Sw : decide ((rd bb iB) < 0) = false := decide_eq_false Gh
                clear Gh
                by_cases Gg : (rd bb iB) > 63
                ·rw [if_pos Gg] at H
                 have Sv : decide (63 < (rd bb iB)) = true := decide_eq_true Gg
                 clear Gg
                 obtain rfl := Option.some.inj H
                 have m9 : 0 ≤ (iB : Int) := of_decide_eq_true (by first | (with_reducible assumption) | assumption)
                 have m8 : iB < (bb.length : Int) := of_decide_eq_true (by first | (with_reducible assumption) | assumption)
                 obtain ⟨Gv, xA, jY⟩ := Kd.at_int mY.out iB m9 m8
                 cases xA
                 replace jY := (HB.out.cell (World.block_lt_of_cell? w _ jY)).trans jY
                 replace m9 := eq_true m9
                 replace m8 := eq_true m8
                 go_wp2
                 go_ret
                 exact ⟨by first | rfl | (simp [bf, bd] <;> rfl) | (simp [*, bf, bd] <;> rfl), by repeat (first | (with_reducible first | exact HB.out | apply af | apply ab | apply ai | refine aD ?_ ev.out) | exact HB.out)⟩
                ·rw [if_neg Gg] at H
                 have Sv : decide (63 < (rd bb iB)) = false := decide_eq_false Gg
                 clear Gg
                 have H' := ak H
                 clear H
                 have m9 : 0 ≤ (iB : Int) := of_decide_eq_true (by first | (with_reducible assumption) | assumption)
                 have m8 : iB < (bb.length : Int) := of_decide_eq_true (by first | (with_reducible assumption) | assumption)
                 obtain ⟨Gv, xA, jY⟩ := Kd.at_int mY.out iB m9 m8
                 cases xA
                 replace jY := (HB.out.cell (World.block_lt_of_cell? w _ jY)).trans jY
                 replace m9 := eq_true m9
                 replace m8 := eq_true m8
                 go_wp2
                 go_roundg k4
                 case measure => have := oB.out; have := lH.out; have := yK.out; have := E8.out; omega
                 case rel => exact ⟨(wrap64 (iB + 1)), (by first | rfl | (simp; done) | (simp [*]; done)), H', ⟨by have := oB.out; have := lH.out; have := yK.out; have := E8.out; omega⟩, ⟨by (with_reducible repeat (first | refine ax ?_ _ | refine aG ?_ | refine ay ?_ _)); exact az.out⟩, ⟨by repeat (first | (with_reducible first | exact HB.out | apply af | apply ab | apply ai | refine aD ?_ ev.out) | exact HB.out)⟩⟩
              ·rw [if_neg Lw] at H
               exact absurd H (by simp)
             ·rw [if_neg Lx] at H
              exact absurd H (by simp)
            ·rw [if_neg Gi] at H
             have Sx : decide (iB < (bb.length : Int)) = false := decide_eq_false Gi
             clear Gi
             obtain rfl := Option.some.inj H
             go_wp2
             go_ret
             exact ⟨by first | rfl | (simp [bf, bd] <;> rfl) | (simp [*, bf, bd] <;> rfl), by repeat (first | (with_reducible first | exact HB.out | apply af | apply ab | apply ai | refine aD ?_ ev.out) | exact HB.out)⟩
end Go.Proofs.Ytemhalnhbgkbcaa.V
end

section
namespace Go.Proofs.Ytemhalnhbgkbcaa.V
def E3 (b : Bk) (r : Bool) : Prop := ∃ k, ah.f k b.addr b.aff b.slots b.free (b.attrs.map vc) = some r
theorem jb.R {W : World} {b : Bk} {A A' : Option Addr} {c c' : Nat} (h : BkR W b A c A' c') : jb W (.agg (bk b.addr b.aff b.slots (.slice A b.free.length c) (.slice A' b.attrs.length c')).toArray) b := ⟨A, c, A', c', rfl, h⟩
theorem N0 (b : Bk) (hk : BkOk b) (hfl : b.free.length ≤ 1000) (hal : b.attrs.length ≤ 1000) (M : List S76) (hM : M = b.attrs.map vc) (v : Value) (w : World) (h : jb w v b) :
  Calls Try.prog 36 #[v] w fun e w' => ∃ As cs Af cf Aa ca, e = .returned (.agg #[.int .u32 b.addr, .string b.aff, .slice As b.slots.length cs, .slice Af b.free.length cf, .slice Aa M.length ca]) ∧ (Kd.C (Kd.int .i64) w' As b.slots.length b.slots ∧ b.slots.length ≤ cs) ∧ (Kd.C (Kd.int .i64) w' Af b.free.length b.free ∧ b.free.length ≤ cf) ∧ (Kd.C ia w' Aa M.length M ∧ M.length ≤ ca) ∧ Below w.heap.size w w' := by
 refine (IK b hk hfl hal v w h).mono ?_
 rintro e w' ⟨vs, vf, va, rfl, h1, h2, h3, hb⟩
 rw [← hM] at h3
 obtain ⟨As, cs, rfl, l1, c1⟩ := Kd.R_reads h1
 obtain ⟨Af, cf, rfl, l2, c2⟩ := Kd.R_reads h2
 obtain ⟨Aa, ca, rfl, l3, c3⟩ := Kd.R_reads h3
 exact ⟨As, cs, Af, cf, Aa, ca, rfl, ⟨c1, l1⟩, ⟨c2, l2⟩, ⟨c3, l3⟩, hb⟩
theorem G6 (b : Bk) (r : Bool) (h : E3 b r) (M : List S76) (hM : M = b.attrs.map vc) (As Af Aa : Option Addr) (cs cf ca : Nat) (w : World)
  (h1 : Kd.C (Kd.int .i64) w As b.slots.length b.slots ∧ b.slots.length ≤ cs) (h2 : Kd.C (Kd.int .i64) w Af b.free.length b.free ∧ b.free.length ≤ cf) (h3 : Kd.C ia w Aa M.length M ∧ M.length ≤ ca) :
  Calls Try.prog 35 #[.agg #[.int .u32 b.addr, .string b.aff, .slice As b.slots.length cs, .slice Af b.free.length cf, .slice Aa M.length ca]] w fun e w' => e = .returned (.bool r) ∧ Below w.heap.size w w' := by
 obtain ⟨k, hk⟩ := h
 subst hM
 exact ah.calls k _ _ As cs _ Af cf _ Aa ca _ r w h1.1 h1.2 h2.1 h2.2 h3.1 h3.2 hk
end Go.Proofs.Ytemhalnhbgkbcaa.V
end

