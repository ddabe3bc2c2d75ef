/- The law ImagePlays for every input: texts of ours, put together (part 13 of 17). No further condition. -/
import Derived.Test.YtemhalnhbgkbcaaCImagePlaysx2
import Derived.Test.YtemhalnhbgkbcaaCImagePlaysx6
import Derived.Test.YtemhalnhbgkbcaaCImagePlaysx7
import Derived.Test.YtemhalnhbgkbcaaCImagePlaysx11
import Derived.Test.YtemhalnhbgkbcaaCImagePlaysx8
import Derived.Test.YtemhalnhbgkbcaaCImagePlaysx4
import Derived.Outline
import Derived.Test.YtemhalnhbgkbcaaCImagePlaysx10
import Derived.Test.YtemhalnhbgkbcaaCImagePlaysx3
import Derived.Test.YtemhalnhbgkbcaaCImagePlaysx9
set_option linter.unusedVariables false
set_option linter.unusedSimpArgs false
open Go.RowKit Go.Proofs.YtemhalnhbgkbcaaW.PrintWords Go.Proofs.YtemhalnhbgkbcaaW.PrintLast Go.Proofs.YtemhalnhbgkbcaaW.PrintMore Go.Proofs.Ytemhalnhbgkbcaa.Z
section
namespace Go.Proofs.Ytemhalnhbgkbcaa.V
set_option maxHeartbeats 16000000 in
set_option maxRecDepth 100000 in
theorem ub (b : Bk) (hk : BkOk b) (l : List Int) (hu : ∀ x ∈ l, 0 ≤ x ∧ x < 4294967296) (hll : l.length ≤ 1000) (Al : Option Addr) (cl : Nat) (hrt : dC b = true) (v : Value) (w : World) (h : iz w v b) (hC : Kd.C (Kd.int .u32) w Al l.length l) :
  Calls Try.prog 52 #[v, .slice Al l.length cl] w fun e w' => ∃ v' vo, e = .returned (.tuple #[v', vo, .int .i64 0]) ∧ ey w' w.heap.size v' (nP b l) ∧ Kd.R (Kd.int .u32) 46 w' w.heap.size (fun _ => True) vo (relL b l).2 ∧ Below w.heap.size w w' := by
 obtain ⟨A, c, A', c', rfl, hr⟩ := h
 have HL := ak hr.l64
 have HR := ak hr
 have HK := ak hk
 have HRT := ak hrt
 have HC := ak hC
 have ag := ak (Below.refl w.heap.size w)
 have hp := im hrt
 have hsum := hp.sum_le hk hr.l64
 have hrk := uG hk hp hr.l64 l
 have HRK := ak hrk
 have HFL := ak (show b.free.length ≤ 64 by omega)
 have hal : b.attrs.length ≤ 64 := by omega
 have HAL := ak hal
 have HCP := ak (m0 b (by omega) (by omega))
 have HU := ak hu
 have HCL := ak (yI b l)
 clear hr hk hrt hC hp hsum hrk hu
 go_enter Try.func52, Try.ntmps52
 go_wp2_with (first
  | (refine aD rfl 57 (.tmp 0) rfl _ rfl ?_; intro gX W1 J aa I; have cg := ge ag J; have ao := ak (ag.out.trans (I.mono ag.out.size)); have aj := ak (aa); clear J aa I ag)
  | (refine au (some 4) rfl rfl 57 rfl a6 bT ?_; intro gZ W2 J aa I; have cb := ge ao J; have aG := ne aj J; have ay := mv I ao; have aw := mv I aj; have cD := ak (aa); clear J aa I ao aj)
  | ((with_reducible refine av (N := 12) rfl ?_); go_loud (refine az rfl 57 (.tmp 2) rfl gX rfl _ _ _ aw.out Try.underlying57 rfl 68 (by kernel_rfl) (ah _ _ _ _ _ HL.out) ?_))
  | (go_at_call 48; go_loud (refine (ee b HK.out _ _ ⟨A, c, A', c', rfl, HR.out.below ay.out⟩).mono ?_; rintro e W3 ⟨rfl, I⟩; rw [HRT.out]; have aE := mv I ay; have aC := mv I aw; have cd := mv I cD; clear I ay aw cD))
  | ((with_reducible refine av (N := 16) rfl ?_); go_loud (refine az rfl 57 (.tmp 2) rfl gX rfl _ _ _ aC.out Try.underlying57 rfl 68 (by kernel_rfl) (ah _ _ _ _ _ HL.out) ?_))
  | (go_at_call 89; go_loud (refine (HCP.out _ _ ⟨A, c, A', c', rfl, HR.out.below aE.out⟩).mono ?_; rintro e W4 ⟨v5, rfl, ou, I⟩; obtain ⟨wM, vf, va, rfl, lU, mM⟩ := ou; obtain ⟨Af, cf, rfl⟩ := Kd.R_slice lU; obtain ⟨Aa, ca, rfl⟩ := Kd.R_slice mM; have HSZ := ak aE.out.size; have a8 := mv I aE; have aY := mv I aC; have bd := mv I cd; have cx := ak (lU); have dF := ak (mM); have cw := ak (I.size); clear wM lU mM I aE aC cd))
  | (refine aK rfl 57 (.tmp 2) (.tmp 17) rfl gX (aU b.addr b.aff b.slots (.slice Af b.free.length cf) (.slice Aa b.attrs.length ca)) rfl rfl 57 _ aY.out 68 (by kernel_rfl) (ah _ _ _ _ _ HL.out) (ah _ _ _ _ _ HL.out) (b7 _ _ _ _ _ rfl rfl) ?_; intro W5 aa J; have bj := gb a8 cg J; have bc := ak (aa); have bI := gm bd aG J; have cj := gr cx aY J; have cW := gr dF aY J; have cQ := ak (Nat.le_trans cw.out J.size); clear aa J a8 aY bd cx dF cw))
 obtain ⟨b1, bq⟩ : ∃ b1, b1 = W3.heap.size := ⟨_, rfl⟩
 rw [← bq] at cj cW cQ HSZ
 have bP := ak (show w.heap.size ≤ b1 from HSZ.out)
 clear bq HSZ
 go_loopw [7, 9, 10, 11, 20, 24] (fun q _ _ _ i _ W => ∃ k : Nat, k ≤ l.length ∧ i = .int .i64 k ∧ Aside0 (OC W b1 gX (relL b (l.take k)).1) ∧ Aside0 (Kd.R (Kd.int .u32) 46 W w.heap.size (fun _ => True) q (relL b (l.take k)).2) ∧ Aside0 (aH W gZ a6 57) ∧ Aside0 (b1 ≤ W.heap.size) ∧ Aside0 (Below w.heap.size w W)) (fun _ _ _ _ i _ _ => l.length - (intOf i).toNat)
 case atStart => exact ⟨0, by omega, rfl, ⟨HL.out, _, _, bc.out, cj.out, cW.out⟩, ⟨Kd.R_nil _ _ _ _ _⟩, bI, cQ, bj⟩
 case round =>
  clear bj bc bI cj cW cQ
  obtain ⟨k, hk, rfl, aM, bR, bC, aV, ag⟩ := hrel
  obtain ⟨W, rfl⟩ : ∃ W : World, W = wr := ⟨_, rfl⟩
  have hro := HRK.out k hk
  by_cases hkn : k < l.length
  ·have hkb : decide ((k : Int) < (l.length : Int)) = true := by simp; omega
   obtain ⟨ad, eA, hx⟩ := Kd.at_int (Kd.C_below HC.out ag.out) k (by omega) (by omega)
   cases eA
   rw [Int.toNat_natCast] at hx
   have p1 : ((k : Int) < (l.length : Int)) = True := eq_true (by omega)
   have hrd : rd l k = l[k] := by simp [rd, List.getD, hkn]
   have ir := HU.out _ (List.getElem_mem hkn)
   obtain ⟨x, hxx⟩ : ∃ x, l[k] = x := ⟨_, rfl⟩
   rw [hxx] at hrd ir
   rw [hrd] at hx
   have hsu := Bz b l k hkn x hxx
   obtain ⟨rs, hrs⟩ : ∃ rs, rs = relL b (l.take k) := ⟨_, rfl⟩
   rw [← hrs] at hro hsu aM bR
   have hol := hro.ol
   have hfl := hro.fl
   have hbk : BkOk rs.1 := ⟨by rw [hro.addr]; exact HK.out.a0, by rw [hro.addr]; exact HK.out.a1, hro.s8, hro.f8⟩
   have hpl := fun v w h => BD rs.1 hbk x ir.1 ir.2 v w h
   have HSU := ak hsu
   have HLM := ak hro.l64
   obtain ⟨bm, oo⟩ := rs
   simp only at hol hfl hpl aM bR HLM
   obtain ⟨Ao, co, rfl⟩ := Kd.R_slice bR.out
   obtain ⟨A1, c1, A2, c2, Dk, mL, lW⟩ := aM.out.open
   have HOL := ak (show oo.length ≤ 1000 by omega)
   have HFLN := ak (show bm.free.length ≤ 2000 by have := HFL.out; omega)
   have HXX := ak Dk
   have jt := ak mL
   have kz := ak lW
   clear hro Dk mL lW hrs hrd hxx hsu hbk hol hfl aM
   by_cases hpb : b9 x = bm.addr
   ·rw [if_pos hpb, decide_eq_true hpb] at hpl
    have hj : (x - bm.addr).toNat < 64 ∧ ((x - bm.addr).toNat : Int) = x - bm.addr := by
     unfold b9 at hpb
     omega
    obtain ⟨j, hjq⟩ : ∃ j : Nat, j = (x - bm.addr).toNat := ⟨_, rfl⟩
    rw [← hjq] at hj
    rw [← hj.2] at hpl
    have r9 : j < 64 := hj.1
    have pj : ((j : Int) < 64) = True := eq_true (by omega)
    have HPL := ak hpl
    obtain ⟨m, hm⟩ : ∃ m, bm.slots.getD j 0 = m := ⟨_, rfl⟩
    have hhit : jQ bm x = (m != 0) := by
     unfold jQ
     rw [decide_eq_true hpb, ← hjq, hm, Bool.true_and]
    have HM := ak hm
    have HJ := ak hj.2
    by_cases qI : m = 0
    ·subst qI
     have HEQ := ak (show relL b (l.take (k + 1)) = (bm, oo) by rw [HSU.out]; unfold relF; rw [if_neg (by rw [hhit]; decide)])
     clear hpb hj hpl hjq hm hhit
     go_wp2_with (first
      | ((with_reducible refine av (N := 25) rfl ?_); go_loud (refine az rfl 57 (.tmp 2) rfl gX rfl _ _ _ HXX.out Try.underlying57 rfl 68 (by kernel_rfl) (ah _ _ _ _ _ HLM.out) ?_))
      | (go_at_call 92; go_loud (refine (HPL.out _ _ ⟨A1, c1, A2, c2, rfl, ⟨HLM.out, (rr jt).1, (rr jt).2, (rr kz).1, (rr kz).2⟩⟩).mono ?_; rintro e W1 ⟨rfl, I⟩; have aj := mv I HXX; have bp := mv I jt; have dk := mv I kz; have cG := mv I bR; have bU := mv I bC; have bb := ak (Nat.le_trans aV.out I.size); have ao := ak (ag.out.trans (I.mono ag.out.size)); have OZ := (show W1.cell? ⟨gX, 2 + j, none⟩ = some (.int .u8 0) from by have h_ := aj.out.slot HLM.out j r9; rwa [HM.out] at h_); have O0 := aj.out.frozen (2 + j); clear I HXX jt kz bR bC aV ag)))
     go_roundw
     case rel => exact ⟨k + 1, by omega, by go_num, ⟨by rw [HEQ.out]; exact ⟨HLM.out, _, _, aj.out, bp.out, dk.out⟩⟩, ⟨by rw [HEQ.out]; exact cG.out⟩, bU, bb, ao⟩
     case measure => simp [intOf]; omega
    ·have wa : (m == 0) = false := by rw [beq_eq_false_iff_ne]; exact qI
     have HEQ := ak (show relL b (l.take (k + 1)) = (⟨bm.addr, bm.aff, bm.slots.set j 0, bm.free ++ [(j : Int)], bm.attrs⟩, oo ++ [x]) by
      rw [HSU.out]
      unfold relF
      rw [if_pos (by rw [hhit]; simpa using qI)]
      rw [← hjq, hj.2])
     clear hpb hj hpl hjq hm hhit qI
     obtain ⟨fr, hfr⟩ : ∃ fr, fr = bm.free ++ [(j : Int)] := ⟨_, rfl⟩
     obtain ⟨o1, eS⟩ : ∃ o1, o1 = oo ++ [x] := ⟨_, rfl⟩
     rw [← hfr, ← eS] at HEQ
     have HFR := ak hfr
     have ix := ak eS
     clear hfr eS
     go_wp2_with (first
      | ((with_reducible refine av (N := 25) rfl ?_); go_loud (refine az rfl 57 (.tmp 2) rfl gX rfl _ _ _ HXX.out Try.underlying57 rfl 68 (by kernel_rfl) (ah _ _ _ _ _ HLM.out) ?_))
      | (go_at_call 92; go_loud (refine (HPL.out _ _ ⟨A1, c1, A2, c2, rfl, ⟨HLM.out, (rr jt).1, (rr jt).2, (rr kz).1, (rr kz).2⟩⟩).mono ?_; rintro e W1 ⟨rfl, I⟩; have aj := mv I HXX; have bp := mv I jt; have dk := mv I kz; have cG := mv I bR; have bU := mv I bC; have bb := ak (Nat.le_trans aV.out I.size); have ao := ak (ag.out.trans (I.mono ag.out.size)); have OZ := (show W1.cell? ⟨gX, 2 + j, none⟩ = some (.int .u8 m) from by have h_ := aj.out.slot HLM.out j r9; rwa [HM.out] at h_); have O0 := aj.out.frozen (2 + j); clear I HXX jt kz bR bC aV ag))
      | ((with_reducible refine av (N := 42) rfl ?_); go_loud (generalize bY : W1.setCell ⟨gX, 2 + j, none⟩ (.int .u8 0) = W2; have J : W1.grownBy W2 (some gX) := (by rw [← bY]; exact bs _ _ _ _); have aw := ak (aj.out.set (2 + j) (.int .u8 0)); have bX := gr bp aj J; have dG := gr dk aj J; have cJ := gr cG aj J; have cD := gm bU aG J; have bK := ak (Nat.le_trans bb.out J.size); have ay := gb ao cg J; rw [bY] at aw; clear bY J aj bp dk cG bU bb ao OZ O0; rw [sk _ _ _ _ _ HLM.out j r9] at aw; have G7 := ak (show (bm.slots.set j 0).length = 64 by rw [List.length_set]; exact HLM.out); have Rc := aw.out.cell 66 _ (fI _ _ _ _ _ G7.out)))
      | ((with_reducible refine bG (b := .append) (xs := #[.tmp 43, .tmp 46]) rfl ?_); at_builtin; go_loud (refine Kd.R_append (Kd.int .u8) (w0 := W2) b1 rfl (.tmp 43) (.tmp 46) 48 5 (.int .u8 0) 1 rfl Try.underlying48 ja rfl (by decide) (by omega) _ bm.free (j : Int) [.int .u8 (j : Int)] (fun _ => True) (fun _ => False) rfl rfl rfl (fun _ hk => hk.elim) (fun _ _ => trivial) bX.out (Below.refl _ _) bK.out (by have := HFLN.out; omega) ?_; intro v_ W3 aW I J fP; rw [← HFR.out] at aW; have aC := ak (aw.out.grown J (aw.out.ne_row bX.out (by decide))); have cy := ak (aW); have dU := ak (Kd.R_over dG.out bX.out (by decide) J); have fg := ak (Kd.R_over cJ.out bX.out (by decide) J); have cd := ak (cD.out.grown J (cD.out.ne_row bX.out (by decide))); have b6 := ak (Nat.le_trans bK.out J.size); have aE := ak (ay.out.trans (I.mono bP.out)); obtain ⟨AF, cF, rfl⟩ := Kd.R_slice aW; have Pe := aC.out.cell 66 _ (fI _ _ _ _ _ G7.out); have Q8 := aC.out.frozen 66; clear aW I J fP aw bX dG cJ cD bK ay Rc))
      | ((with_reducible refine bG (b := .append) (xs := #[.tmp 49, .tmp 51]) rfl ?_); at_builtin; go_loud (generalize bY : W3.setCell ⟨gX, 66, none⟩ (.slice AF fr.length cF) = W4; have nJ : W3.heap.size = W4.heap.size := (by rw [← bY]; simp [World.setCell]); have J : W3.grownBy W4 (some gX) := (by rw [← bY]; exact bs _ _ _ _); have aY := ak (aC.out.set 66 (.slice AF fr.length cF)); have cx := gr cy aC J; have dF := gr dU aC J; have mV := gr fg aC J; have bd := gm cd aG J; have cw := ak (Nat.le_trans b6.out J.size); have a8 := gb aE cg J; rw [bY] at aY; clear bY J aC cy dU fg cd b6 aE Pe Q8; rw [k8 _ _ _ _ _ G7.out] at aY; refine Kd.R_append (Kd.int .u32) (w0 := w) w.heap.size rfl (.tmp 49) (.tmp 51) 77 46 (.int .u32 0) 4 rfl Try.underlying77 jL rfl (by decide) (by omega) _ oo x [.int .u32 x] (fun _ => True) (fun _ => False) rfl (congrArg (fun n_ => Value.slice (some ⟨n_, 0, none⟩) 1 1) nJ) rfl (fun _ hk => hk.elim) (fun _ _ => trivial) mV.out a8.out a8.out.size (by have := HOL.out; omega) ?_; intro v_ W5 aW I J fP; rw [← ix.out] at aW; have bc := ak (aY.out.grown J (aY.out.ne_row mV.out (by decide))); have cj := ak (Kd.R_over cx.out mV.out (by decide) J); have cW := ak (Kd.R_over dF.out mV.out (by decide) J); have qG := ak (aW); have bI := ak (bd.out.grown J (bd.out.ne_row mV.out (by decide))); have cQ := ak (Nat.le_trans cw.out J.size); have bj := ak (I); obtain ⟨AO, cO, rfl⟩ := Kd.R_slice aW; clear aW I J fP nJ aY cx dF mV bd cw a8)))
     go_roundw
     case rel => exact ⟨k + 1, by omega, by go_num, ⟨by rw [HEQ.out]; exact ⟨G7.out, _, _, bc.out, cj.out, cW.out⟩⟩, ⟨by rw [HEQ.out]; exact qG.out⟩, bI, cQ, bj⟩
     case measure => simp [intOf]; omega
   ·rw [if_neg hpb, decide_eq_false hpb] at hpl
    have HPL := ak hpl
    have HEQ := ak (show relL b (l.take (k + 1)) = (bm, oo) by
     rw [HSU.out]
     unfold relF
     rw [if_neg (by unfold jQ; rw [decide_eq_false hpb]; simp)])
    clear hpb hpl
    go_wp2_with (first
     | ((with_reducible refine av (N := 25) rfl ?_); go_loud (refine az rfl 57 (.tmp 2) rfl gX rfl _ _ _ HXX.out Try.underlying57 rfl 68 (by kernel_rfl) (ah _ _ _ _ _ HLM.out) ?_))
     | (go_at_call 92; go_loud (refine (HPL.out _ _ ⟨A1, c1, A2, c2, rfl, ⟨HLM.out, (rr jt).1, (rr jt).2, (rr kz).1, (rr kz).2⟩⟩).mono ?_; rintro e W1 ⟨rfl, I⟩; have aj := mv I HXX; have bp := mv I jt; have dk := mv I kz; have cG := mv I bR; have bU := mv I bC; have bb := ak (Nat.le_trans aV.out I.size); have ao := ak (ag.out.trans (I.mono ag.out.size)); clear I HXX jt kz bR bC aV ag)))
    go_roundw
    case rel => exact ⟨k + 1, by omega, by go_num, ⟨by rw [HEQ.out]; exact ⟨HLM.out, _, _, aj.out, bp.out, dk.out⟩⟩, ⟨by rw [HEQ.out]; exact cG.out⟩, bU, bb, ao⟩
    case measure => simp [intOf]; omega
  ·obtain rfl : k = l.length := by omega
   have hkb : decide ((l.length : Int) < (l.length : Int)) = false := by simp
   rw [List.take_of_length_le (Nat.le_refl l.length)] at hro aM bR
   have HBR := ak (show nP b l = lu (relL b l).1 from rfl)
   obtain ⟨rs, hrs⟩ : ∃ rs, rs = relL b l := ⟨_, rfl⟩
   have HRS := ak hrs
   rw [← hrs] at hro aM bR HBR
   obtain ⟨bm, oo⟩ := rs
   simp only at aM bR HBR
   have HCM := ak (fun v w base ks h => Fc bm hro.s8 (by rw [hro.attrs]; exact HAL.out) (fun s hs => by rw [hro.attrs]; exact hro.le s hs) v w base ks h)
   have HLM := ak hro.l64
   simp only at HLM
   obtain ⟨Ao, co, rfl⟩ := Kd.R_slice bR.out
   obtain ⟨A1, c1, A2, c2, Dk, mL, lW⟩ := aM.out.open
   have HXX := ak Dk
   have jt := ak mL
   have kz := ak lW
   clear hro Dk mL lW hrs aM
   go_wp2_with (first
    | ((with_reducible refine av (N := 54) rfl ?_); go_loud (refine az rfl 57 (.tmp 2) rfl gX rfl _ _ _ HXX.out Try.underlying57 rfl 68 (by kernel_rfl) (ah _ _ _ _ _ HLM.out) ?_))
    | (go_at_call 95; go_loud (refine (HCM.out _ _ b1 aV.out ⟨HLM.out, _, _, rfl, jt.out, kz.out⟩).mono ?_; rintro e W1 ⟨v9, rfl, eG, I⟩; obtain ⟨BP, sx, sA, rfl, fp, eH⟩ := eG; obtain ⟨A8, c8, rfl⟩ := Kd.R_slice fp; obtain ⟨A9, c9, rfl⟩ := Kd.R_slice eH; have xa := ak BP; have aj := mv I HXX; have cG := mv I bR; have bU := mv I bC; have bb := ak (Nat.le_trans aV.out I.size); have ao := ak (ag.out.trans (I.mono ag.out.size)); have dg := ak (fp); have Qp := ak (eH); clear BP fp eH I HXX bR bC aV ag))
    | (refine aK rfl 57 (.tmp 4) (.tmp 55) rfl gZ (aU (lu bm).addr (lu bm).aff (lu bm).slots (.slice A8 (lu bm).free.length c8) (.slice A9 (lu bm).attrs.length c9)) rfl rfl 57 _ bU.out 68 (by kernel_rfl) (ah _ _ _ _ _ xa.out) rfl (b7 _ _ _ _ _ rfl rfl) ?_; intro W2 aa J; have aw := gn aj aG J; have cJ := gr cG bU J; have cD := ak (aa); have bK := ak (Nat.le_trans bb.out J.size); have ay := gb ao cb J; have di := gr dg bU J; have Ud := gr Qp bU J; clear aa J aj cG bU bb ao dg Qp))
   refine bodyPost_ret (je rfl _ _ gZ 57 _ (0, 0) _ rfl cD.out Try.underlying57 rfl (by simp only [List.size_toArray]; exact ch _ (ah _ _ _ _ _ xa.out))) rfl ⟨_, _, rfl, ?_, by rw [← HRS.out]; exact cJ.out, ay.out⟩
   rw [HBR.out]
   exact ⟨xa.out, _, _, rfl, Kd.R_lower di.out bP.out, Kd.R_lower Ud.out bP.out⟩
end Go.Proofs.Ytemhalnhbgkbcaa.V
end

section
namespace Go.Proofs.Ytemhalnhbgkbcaa.V
theorem oM {b : Bk} (hk : BkOk b) (hf : b9 b.addr = b.addr) (p : At → Bool) : ∀ x ∈ eD b p 64, 0 ≤ x ∧ x < 4294967296 := by
 intro x hx
 unfold eD at hx
 obtain ⟨i, hi, rfl⟩ := List.mem_map.1 hx
 have h1 := List.mem_range.1 (List.mem_filter.1 hi).1
 have h2 := hk.a0
 have h3 := hk.a1
 unfold b9 at hf
 omega
def kP.T3 : Bool × List (List Nat × List Nat) := (true, [([], []), ([], []), ([], []), ([1, 2], [1, 2]), ([0, 3, 3], [0, 3]), ([4], [4]), ([4], [4]), ([4], [4]), ([5, 4, 0, 1, 2, 3, 4, 5, 6, 7], [5]), ([6, 8, 0, 1, 2, 3, 4, 5, 6, 7, 8], [6]), ([7, 9, 0, 1, 2, 3, 4, 5, 6, 7, 8, 9], [7])])
def kP.B3 : List Nat := [0, 0, 0, 6, 15, 31, 31, 31, 255, 511, 1023]
theorem kP.tab3 : ed .any (opsOf Try.f53 3) = kP.T3 := by kernel_rfl
theorem kP.bits3 : dL kP.T3.2 kP.B3 = true := by kernel_rfl
set_option maxHeartbeats 16000000 in
set_option maxRecDepth 100000 in
theorem Ce (b : Bk) (hk : BkOk b) (id : ByteArray) (hrt : dC b = true) (v : Value) (w : World) (h : iz w v b) :
  Calls Try.prog 53 #[v, .string id] w fun e w' => ∃ v' vo, e = .returned (.tuple #[v', vo, .int .i64 0]) ∧ ey w' w.heap.size v' (nP b (eD b (fun a => a.f0.toList == id.toList) 64)) ∧ Kd.R (Kd.int .u32) 46 w' w.heap.size (fun _ => True) vo (relL b (eD b (fun a => a.f0.toList == id.toList) 64)).2 ∧ Below w.heap.size w w' := by
 obtain ⟨A, c, A', c', rfl, hr⟩ := h
 have HL := ak hr.l64
 have HR := ak hr
 have HK := ak hk
 have HRT := ak hrt
 have ag := ak (Below.refl w.heap.size w)
 have HP := ak (im hrt)
 clear hr hk hrt
 go_enter Try.func53, Try.ntmps53
 go_wp2_with (first
  | (refine aD rfl 57 (.tmp 0) rfl _ rfl ?_; intro gX W1 J aa I; have cg := ge ag J; have ao := ak (ag.out.trans (I.mono ag.out.size)); have aj := ak (aa); clear J aa I ag)
  | ((with_reducible refine av (N := 4) rfl ?_); go_loud (obtain ⟨gI, J⟩ : ∃ g_, g_ = W1.heap.size := ⟨_, rfl⟩; rw [← J]; generalize bY : W1.alloc (.cells #[.string id] 9) = W2; have I : Below W1.heap.size W1 W2 := (by rw [← bY]; exact af (Below.refl _ _) _); have aa : aH W2 gI [.string id] 9 := (by rw [← bY, J]; exact heap_alloc_new W1 _); have fX : W1.heap.size ≤ gI := Nat.le_of_eq J.symm; have xD := ge ao fX; have mT := ne aj fX; have ay := mv I ao; have aw := mv I aj; have yx := ak (aa); clear bY I aa fX J ao aj; refine au (some 4) rfl rfl 57 rfl a6 bT ?_; intro gZ W3 J aa I; have cb := ge ay J; have aG := ne aw J; have KF := ne yx J; have aE := mv I ay; have aC := mv I aw; have xe := mv I yx; have cd := ak (aa); clear J aa I ay aw yx))
  | ((with_reducible refine av (N := 7) rfl ?_); go_loud (refine az rfl 57 (.tmp 2) rfl gX rfl _ _ _ aC.out Try.underlying57 rfl 68 (by kernel_rfl) (ah _ _ _ _ _ HL.out) ?_))
  | (go_at_call 48; go_loud (refine (ee b HK.out _ _ ⟨A, c, A', c', rfl, HR.out.below aE.out⟩).mono ?_; rintro e W4 ⟨rfl, I⟩; rw [HRT.out]; have a8 := mv I aE; have aY := mv I aC; have xd := mv I xe; have bd := mv I cd; clear I aE aC xe cd)))
 have al : Below W4.heap.size W4 W4.drew := br (Below.refl _ _)
 have bj := mv al a8; have bc := mv al aY; have j6 := mv al xd; have bI := mv al bd
 clear al a8 aY xd bd
 have HLL := ak (ch (aU b.addr b.aff b.slots (.slice A b.free.length c) (.slice A' b.attrs.length c')) (ah _ _ _ _ _ HL.out))
 refine dd (n := 11) (S := fun w' => aH w' gX (aU b.addr b.aff b.slots (.slice A b.free.length c) (.slice A' b.attrs.length c')) 57) (ds := []) #[false, false, false, false, false, false, false, false, false, false, false] (by kernel_rfl) rfl rfl bc.out (fun hHeld => ?_); refine bQ kP.tab3 kP.bits3 (fun ae bA => ?_)
 refine tk 0 ae.out bA.out hHeld ?_ (hv := by exact fun _ aZ => aQ 57 (.tmp 2) rfl gX rfl _ _ _ aZ Try.underlying57 rfl HLL.out)
 refine tk 1 ae.out bA.out hHeld ?_ (hv := by exact fun _ aZ => aQ 57 (.tmp 2) rfl gX rfl _ _ _ aZ Try.underlying57 rfl HLL.out)
 refine pu 2 ae.out ?_
 refine on 3 ae.out (fun K hK => ?_)
 refine gs Try.func96 #[.agg (aU b.addr b.aff b.slots (.slice A b.free.length c) (.slice A' b.attrs.length c')).toArray, .func (.func 97) #[] #[.pointer (some ⟨gI, 0, none⟩)]] (EM b HK.out HP.out _ _ ⟨A, c, A', c', rfl, HR.out.below bj.out⟩ id gI j6.out) ?_
 rintro e V1 ⟨vo, rfl, aW, I⟩
 refine ⟨_, rfl, ?_⟩
 obtain ⟨U, hU⟩ : ∃ U, U = eD b (fun a => a.f0.toList == id.toList) 64 := ⟨_, rfl⟩; rw [← hU] at aW; have HU := ak hU; obtain ⟨Au, cu, rfl⟩ := Kd.R_slice aW; have bO := mv I bj; have bl := mv I bc; have lD := mv I j6; have bW := mv I bI; have eg := ak (aW); clear hU aW I bj bc j6 bI
 refine kn hK bl.out (fun hHeld => ?_)
 clear hK K
 refine on 4 ae.out (fun K hK => ?_)
 refine gs Try.func52 #[.agg (aU b.addr b.aff b.slots (.slice A b.free.length c) (.slice A' b.attrs.length c')).toArray, .slice Au U.length cu] (ub b HK.out U (by rw [HU.out]; exact oM HK.out HP.out.first _) (by rw [HU.out]; have := jK b (fun a => a.f0.toList == id.toList) 64; omega) Au cu HRT.out _ _ ⟨A, c, A', c', rfl, HR.out.below bO.out⟩ (Kd.R_reads' eg.out).2.2) ?_
 rintro e V2 ⟨v9, vq, rfl, eG, fR, I⟩
 refine ⟨_, rfl, ?_⟩
 obtain ⟨nb, hnb⟩ : ∃ nb, nb = nP b U := ⟨_, rfl⟩; obtain ⟨nq, hnq⟩ : ∃ nq, nq = (relL b U).2 := ⟨_, rfl⟩; rw [← hnb] at eG; rw [← hnq] at fR; have HNB := ak hnb; have HNQ := ak hnq; obtain ⟨BP, sx, sA, rfl, fp, eH⟩ := eG; obtain ⟨A8, c8, rfl⟩ := Kd.R_slice fp; obtain ⟨A9, c9, rfl⟩ := Kd.R_slice eH; obtain ⟨Aq, cq, rfl⟩ := Kd.R_slice fR; have xa := ak BP; have HSZ := ak (show w.heap.size ≤ V1.heap.size from bO.out.size); have ew := mv I bO; have dI := mv I bl; have lg := mv I lD; have dz := mv I bW; have fu := ak (fp); have j7 := ak (eH); have kx := ak (fR); clear hnb hnq BP fp eH fR I bO bl lD bW
 refine kn hK dI.out (fun hHeld => ?_)
 clear hK K
 refine pu 5 ae.out ?_
 refine pu 6 ae.out ?_
 refine pu 7 ae.out ?_
 refine ow 8 ae.out (fun K hK => ?_)
 refine bJ (by rfl) rfl 57 (.tmp 4) (.tmp 16) rfl gZ (aU nb.addr nb.aff nb.slots (.slice A8 nb.free.length c8) (.slice A9 nb.attrs.length c9)) rfl rfl 57 _ dz.out 68 (by kernel_rfl) (ah _ _ _ _ _ xa.out) rfl (b7 _ _ _ _ _ rfl rfl) ?_
 intro V3 aa J; have iM := gb ew cb J; have iK := gn dI aG J; have yw := gx lg dz J; have jc := ak (aa); have kH := gr fu dz J; have kG := gr j7 dz J; have qF := gr kx dz J; clear aa J ew dI lg dz fu j7 kx
 refine hK.out _ _ iK.out (fun hHeld => ?_)
 clear hK K
 refine pu 9 ae.out ?_
 refine pu 10 ae.out ?_
 refine dn ae.out ?_
 try go_wp2
 refine bodyPost_ret (je rfl _ _ gZ 57 _ (0, 0) _ rfl jc.out Try.underlying57 rfl (by simp only [List.size_toArray]; exact ch _ (ah _ _ _ _ _ xa.out))) rfl ⟨_, _, rfl, ?_, ?_, iM.out⟩
 ·rw [← HU.out, ← HNB.out]; exact ⟨xa.out, _, _, rfl, Kd.R_lower kH.out HSZ.out, Kd.R_lower kG.out HSZ.out⟩
 ·rw [← HU.out, ← HNQ.out]; exact Kd.R_lower qF.out HSZ.out
def mF.T3 : Bool × List (List Nat × List Nat) := (true, [([], []), ([], []), ([], []), ([1, 2], [1, 2]), ([0, 3, 3], [0, 3]), ([4], [4]), ([4], [4]), ([4], [4]), ([5, 4, 0, 1, 2, 3, 4, 5, 6, 7], [5]), ([6, 8, 0, 1, 2, 3, 4, 5, 6, 7, 8], [6]), ([7, 9, 0, 1, 2, 3, 4, 5, 6, 7, 8, 9], [7])])
def mF.B3 : List Nat := [0, 0, 0, 6, 15, 31, 31, 31, 255, 511, 1023]
theorem mF.tab3 : ed .any (opsOf Try.f54 3) = mF.T3 := by kernel_rfl
theorem mF.bits3 : dL mF.T3.2 mF.B3 = true := by kernel_rfl
set_option maxHeartbeats 16000000 in
set_option maxRecDepth 100000 in
theorem EU (b : Bk) (hk : BkOk b) (id : ByteArray) (hrt : dC b = true) (v : Value) (w : World) (h : iz w v b) :
  Calls Try.prog 54 #[v, .string id] w fun e w' => ∃ v' vo, e = .returned (.tuple #[v', vo, .int .i64 0]) ∧ ey w' w.heap.size v' (nP b (eD b (fun a => a.f1.toList == id.toList) 64)) ∧ Kd.R (Kd.int .u32) 46 w' w.heap.size (fun _ => True) vo (relL b (eD b (fun a => a.f1.toList == id.toList) 64)).2 ∧ Below w.heap.size w w' := by
 obtain ⟨A, c, A', c', rfl, hr⟩ := h
 have HL := ak hr.l64
 have HR := ak hr
 have HK := ak hk
 have HRT := ak hrt
 have ag := ak (Below.refl w.heap.size w)
 have HP := ak (im hrt)
 clear hr hk hrt
 go_enter Try.func54, Try.ntmps54
 go_wp2_with (first
  | (refine aD rfl 57 (.tmp 0) rfl _ rfl ?_; intro gX W1 J aa I; have cg := ge ag J; have ao := ak (ag.out.trans (I.mono ag.out.size)); have aj := ak (aa); clear J aa I ag)
  | ((with_reducible refine av (N := 4) rfl ?_); go_loud (obtain ⟨gI, J⟩ : ∃ g_, g_ = W1.heap.size := ⟨_, rfl⟩; rw [← J]; generalize bY : W1.alloc (.cells #[.string id] 9) = W2; have I : Below W1.heap.size W1 W2 := (by rw [← bY]; exact af (Below.refl _ _) _); have aa : aH W2 gI [.string id] 9 := (by rw [← bY, J]; exact heap_alloc_new W1 _); have fX : W1.heap.size ≤ gI := Nat.le_of_eq J.symm; have xD := ge ao fX; have mT := ne aj fX; have ay := mv I ao; have aw := mv I aj; have yx := ak (aa); clear bY I aa fX J ao aj; refine au (some 4) rfl rfl 57 rfl a6 bT ?_; intro gZ W3 J aa I; have cb := ge ay J; have aG := ne aw J; have KF := ne yx J; have aE := mv I ay; have aC := mv I aw; have xe := mv I yx; have cd := ak (aa); clear J aa I ay aw yx))
  | ((with_reducible refine av (N := 7) rfl ?_); go_loud (refine az rfl 57 (.tmp 2) rfl gX rfl _ _ _ aC.out Try.underlying57 rfl 68 (by kernel_rfl) (ah _ _ _ _ _ HL.out) ?_))
  | (go_at_call 48; go_loud (refine (ee b HK.out _ _ ⟨A, c, A', c', rfl, HR.out.below aE.out⟩).mono ?_; rintro e W4 ⟨rfl, I⟩; rw [HRT.out]; have a8 := mv I aE; have aY := mv I aC; have xd := mv I xe; have bd := mv I cd; clear I aE aC xe cd)))
 have al : Below W4.heap.size W4 W4.drew := br (Below.refl _ _)
 have bj := mv al a8; have bc := mv al aY; have j6 := mv al xd; have bI := mv al bd
 clear al a8 aY xd bd
 have HLL := ak (ch (aU b.addr b.aff b.slots (.slice A b.free.length c) (.slice A' b.attrs.length c')) (ah _ _ _ _ _ HL.out))
 refine dd (n := 11) (S := fun w' => aH w' gX (aU b.addr b.aff b.slots (.slice A b.free.length c) (.slice A' b.attrs.length c')) 57) (ds := []) #[false, false, false, false, false, false, false, false, false, false, false] (by kernel_rfl) rfl rfl bc.out (fun hHeld => ?_); refine bQ mF.tab3 mF.bits3 (fun ae bA => ?_)
 refine tk 0 ae.out bA.out hHeld ?_ (hv := by exact fun _ aZ => aQ 57 (.tmp 2) rfl gX rfl _ _ _ aZ Try.underlying57 rfl HLL.out)
 refine tk 1 ae.out bA.out hHeld ?_ (hv := by exact fun _ aZ => aQ 57 (.tmp 2) rfl gX rfl _ _ _ aZ Try.underlying57 rfl HLL.out)
 refine pu 2 ae.out ?_
 refine on 3 ae.out (fun K hK => ?_)
 refine gs Try.func96 #[.agg (aU b.addr b.aff b.slots (.slice A b.free.length c) (.slice A' b.attrs.length c')).toArray, .func (.func 98) #[] #[.pointer (some ⟨gI, 0, none⟩)]] (Hk b HK.out HP.out _ _ ⟨A, c, A', c', rfl, HR.out.below bj.out⟩ id gI j6.out) ?_
 rintro e V1 ⟨vo, rfl, aW, I⟩
 refine ⟨_, rfl, ?_⟩
 obtain ⟨U, hU⟩ : ∃ U, U = eD b (fun a => a.f1.toList == id.toList) 64 := ⟨_, rfl⟩; rw [← hU] at aW; have HU := ak hU; obtain ⟨Au, cu, rfl⟩ := Kd.R_slice aW; have bO := mv I bj; have bl := mv I bc; have lD := mv I j6; have bW := mv I bI; have eg := ak (aW); clear hU aW I bj bc j6 bI
 refine kn hK bl.out (fun hHeld => ?_)
 clear hK K
 refine on 4 ae.out (fun K hK => ?_)
 refine gs Try.func52 #[.agg (aU b.addr b.aff b.slots (.slice A b.free.length c) (.slice A' b.attrs.length c')).toArray, .slice Au U.length cu] (ub b HK.out U (by rw [HU.out]; exact oM HK.out HP.out.first _) (by rw [HU.out]; have := jK b (fun a => a.f1.toList == id.toList) 64; omega) Au cu HRT.out _ _ ⟨A, c, A', c', rfl, HR.out.below bO.out⟩ (Kd.R_reads' eg.out).2.2) ?_
 rintro e V2 ⟨v9, vq, rfl, eG, fR, I⟩
 refine ⟨_, rfl, ?_⟩
 obtain ⟨nb, hnb⟩ : ∃ nb, nb = nP b U := ⟨_, rfl⟩; obtain ⟨nq, hnq⟩ : ∃ nq, nq = (relL b U).2 := ⟨_, rfl⟩; rw [← hnb] at eG; rw [← hnq] at fR; have HNB := ak hnb; have HNQ := ak hnq; obtain ⟨BP, sx, sA, rfl, fp, eH⟩ := eG; obtain ⟨A8, c8, rfl⟩ := Kd.R_slice fp; obtain ⟨A9, c9, rfl⟩ := Kd.R_slice eH; obtain ⟨Aq, cq, rfl⟩ := Kd.R_slice fR; have xa := ak BP; have HSZ := ak (show w.heap.size ≤ V1.heap.size from bO.out.size); have ew := mv I bO; have dI := mv I bl; have lg := mv I lD; have dz := mv I bW; have fu := ak (fp); have j7 := ak (eH); have kx := ak (fR); clear hnb hnq BP fp eH fR I bO bl lD bW
 refine kn hK dI.out (fun hHeld => ?_)
 clear hK K
 refine pu 5 ae.out ?_
 refine pu 6 ae.out ?_
 refine pu 7 ae.out ?_
 refine ow 8 ae.out (fun K hK => ?_)
 refine bJ (by rfl) rfl 57 (.tmp 4) (.tmp 16) rfl gZ (aU nb.addr nb.aff nb.slots (.slice A8 nb.free.length c8) (.slice A9 nb.attrs.length c9)) rfl rfl 57 _ dz.out 68 (by kernel_rfl) (ah _ _ _ _ _ xa.out) rfl (b7 _ _ _ _ _ rfl rfl) ?_
 intro V3 aa J; have iM := gb ew cb J; have iK := gn dI aG J; have yw := gx lg dz J; have jc := ak (aa); have kH := gr fu dz J; have kG := gr j7 dz J; have qF := gr kx dz J; clear aa J ew dI lg dz fu j7 kx
 refine hK.out _ _ iK.out (fun hHeld => ?_)
 clear hK K
 refine pu 9 ae.out ?_
 refine pu 10 ae.out ?_
 refine dn ae.out ?_
 try go_wp2
 refine bodyPost_ret (je rfl _ _ gZ 57 _ (0, 0) _ rfl jc.out Try.underlying57 rfl (by simp only [List.size_toArray]; exact ch _ (ah _ _ _ _ _ xa.out))) rfl ⟨_, _, rfl, ?_, ?_, iM.out⟩
 ·rw [← HU.out, ← HNB.out]; exact ⟨xa.out, _, _, rfl, Kd.R_lower kH.out HSZ.out, Kd.R_lower kG.out HSZ.out⟩
 ·rw [← HU.out, ← HNQ.out]; exact Kd.R_lower qF.out HSZ.out
end Go.Proofs.Ytemhalnhbgkbcaa.V
end

section
namespace Go.Proofs.Ytemhalnhbgkbcaa.V
attribute [local go_sem] ea dY eB ez dq dp dZ dX
def dy.l0 : Nat → List Int → List Int → Int → Int → Option (Bool)
 | 0, _, _, _, _ => none
 | k + 1, x0, x1, xG, lQ => if lQ < xG then (if 0 ≤ lQ then (if lQ < (x0.length : Int) then (if lQ < (x1.length : Int) then (if (rd x0 lQ) = (rd x1 lQ) then (dy.l0 k x0 x1 xG (wrap64 (lQ + 1))) else (some false)) else (none)) else (none)) else (none)) else (some true)
def dy.f (k : Nat) (l0 : List Int) (l1 : List Int) : Option (Bool) := if (l0.length : Int) = (l1.length : Int) then (dy.l0 k l0 l1 (l1.length : Int) 0) else (some false)
set_option maxHeartbeats 8000000 in
set_option maxRecDepth 100000 in
theorem dy.calls (k : Nat) (A0 : Option Addr) (c0 : Nat) (l0 : List Int) (A1 : Option Addr) (c1 : Nat) (l1 : List Int) (r : Bool) (w : World) (lR : Kd.C (Kd.int .u32) w A0 l0.length l0) (iR : l0.length ≤ c0) (nK : Kd.C (Kd.int .u32) w A1 l1.length l1) (sg : l1.length ≤ c1) (h : dy.f k l0 l1 = some r) :
  Calls Try.prog 61 #[.slice A0 l0.length c0, .slice A1 l1.length c1] w fun e w' => e = .returned (.bool r) ∧ Drawn0 w w' := by
 have oH := ak lR
 have xZ := ak iR
 clear lR iR
 have mU := ak nK
 have Gh := ak sg
 clear nK sg
 have H : (if (l0.length : Int) = (l1.length : Int) then (dy.l0 k l0 l1 (l1.length : Int) 0) else (some false)) = some r := h
 clear h
 by_cases c3 : (l0.length : Int) = (l1.length : Int)
 ·rw [if_pos c3] at H
  have ny : ((l0.length : Int) == (l1.length : Int)) = true := beq_iff_eq.mpr c3
  have yq : ((l0.length : Int) != (l1.length : Int)) = false := bne_eq_false_iff_eq.mpr c3
  have D3 : (l0.length == l1.length) = true := by first | simpa using c3 | (simp at c3 ⊢; omega)
  clear c3
  have H' := ak H
  clear H
  go_enter Try.func61, Try.ntmps61
  go_wp2
  repeat (go_quiet (fail); try go_wp2)
  go_loopg [13] k (fun kq Fp w' => ∃ (bh : Int), Fp = .int .i64 bh ∧ Aside0 (dy.l0 kq l0 l1 (l1.length : Int) bh = some r) ∧ Aside0 (kq ≤ k) ∧ Drawn0 w w')
  case atStart => exact ⟨(0), (by first | rfl | (simp; done) | (simp [*]; done)), H', ⟨Nat.le_refl _⟩, by repeat (first | exact Drawn0.refl _ | apply Drawn0.step)⟩
  case round =>
   clear H'
   obtain ⟨bh, rfl, HA, du, ⟨m1, rfl⟩⟩ := hrel
   cases gk with
   | zero => exact absurd HA.out (by simp [dy.l0])
   | succ k1 =>
    have H := HA.out
    clear HA
    simp only [dy.l0] at H
    by_cases c4 : bh < (l1.length : Int)
    ·rw [if_pos c4] at H
     have oS : decide (bh < (l1.length : Int)) = true := decide_eq_true c4
     clear c4
     by_cases c5 : 0 ≤ bh
     ·rw [if_pos c5] at H
      have yp : decide (0 ≤ bh) = true := decide_eq_true c5
      clear c5
      by_cases c6 : bh < (l0.length : Int)
      ·rw [if_pos c6] at H
       have nW : decide (bh < (l0.length : Int)) = true := decide_eq_true c6
       clear c6
       by_cases c7 : bh < (l1.length : Int)
       ·rw [if_pos c7] at H
        have mi : decide (bh < (l1.length : Int)) = true := decide_eq_true c7
        clear c7
        by_cases c8 : (rd l0 bh) = (rd l1 bh)
        ·rw [if_pos c8] at H
         have sj : ((rd l0 bh) == (rd l1 bh)) = true := beq_iff_eq.mpr c8
         have DZ : ((rd l0 bh) != (rd l1 bh)) = false := bne_eq_false_iff_eq.mpr c8
         clear c8
         have H' := ak H
         clear H
         have rW : 0 ≤ (bh : Int) := of_decide_eq_true (by first | (with_reducible assumption) | assumption)
         have rN : bh < (l0.length : Int) := of_decide_eq_true (by first | (with_reducible assumption) | assumption)
         obtain ⟨NT, DU, Iz⟩ := Kd.at_int oH.out bh rW rN
         cases DU
         replace rW := eq_true rW
         replace rN := eq_true rN
         have rV : 0 ≤ (bh : Int) := of_decide_eq_true (by first | (with_reducible assumption) | assumption)
         have rM : bh < (l1.length : Int) := of_decide_eq_true (by first | (with_reducible assumption) | assumption)
         obtain ⟨NS, DT, Iy⟩ := Kd.at_int mU.out bh rV rM
         cases DT
         replace rV := eq_true rV
         replace rM := eq_true rM
         go_wp2
         repeat (go_quiet (fail); try go_wp2)
         go_roundg k1
         case measure => have := du.out; omega
         case rel => exact ⟨(wrap64 (bh + 1)), (by first | rfl | (simp; done) | (simp [*]; done)), H', ⟨by have := du.out; omega⟩, by repeat (first | exact Drawn0.refl _ | apply Drawn0.step)⟩
        ·rw [if_neg c8] at H
         have sj : ((rd l0 bh) == (rd l1 bh)) = false := beq_eq_false_iff_ne.mpr c8
         have DZ : ((rd l0 bh) != (rd l1 bh)) = true := bne_iff_ne.mpr c8
         obtain rfl := Option.some.inj H
         have rW : 0 ≤ (bh : Int) := of_decide_eq_true (by first | (with_reducible assumption) | assumption)
         have rN : bh < (l0.length : Int) := of_decide_eq_true (by first | (with_reducible assumption) | assumption)
         obtain ⟨NT, DU, Iz⟩ := Kd.at_int oH.out bh rW rN
         cases DU
         replace rW := eq_true rW
         replace rN := eq_true rN
         have rV : 0 ≤ (bh : Int) := of_decide_eq_true (by first | (with_reducible assumption) | assumption)
         have rM : bh < (l1.length : Int) := of_decide_eq_true (by first | (with_reducible assumption) | assumption)
         obtain ⟨NS, DT, Iy⟩ := Kd.at_int mU.out bh rV rM
         cases DT
         replace rV := eq_true rV
         replace rM := eq_true rM
         go_wp2
         repeat (go_quiet (fail); try go_wp2)
         go_ret
         exact ⟨by first | rfl | (simp; done) | (simp [*]; done), by repeat (first | exact Drawn0.refl _ | apply Drawn0.step)⟩
       ·rw [if_neg c7] at H
        exact absurd H (by simp)
      ·rw [if_neg c6] at H
       exact absurd H (by simp)
     ·rw [if_neg c5] at H
      exact absurd H (by simp)
    ·rw [if_neg c4] at H
     have oS : decide (bh < (l1.length : Int)) = false := decide_eq_false c4
     clear c4
     obtain rfl := Option.some.inj H
     go_wp2
     repeat (go_quiet (fail); try go_wp2)
     go_ret
     exact ⟨by first | rfl | (simp; done) | (simp [*]; done), by repeat (first | exact Drawn0.refl _ | apply Drawn0.step)⟩
 ·rw [if_neg c3] at H
  have ny : ((l0.length : Int) == (l1.length : Int)) = false := beq_eq_false_iff_ne.mpr c3
  have yq : ((l0.length : Int) != (l1.length : Int)) = true := bne_iff_ne.mpr c3
  have D3 : (l0.length == l1.length) = false := by first | simpa using c3 | (simp at c3 ⊢; omega)
  obtain rfl := Option.some.inj H
  go_enter Try.func61, Try.ntmps61
  go_wp2
  repeat (go_quiet (fail); try go_wp2)
  go_ret
  exact ⟨by first | rfl | (simp; done) | (simp [*]; done), by repeat (first | exact Drawn0.refl _ | apply Drawn0.step)⟩
end Go.Proofs.Ytemhalnhbgkbcaa.V
end

section
namespace Go.Proofs.Ytemhalnhbgkbcaa.V
theorem KC (l : List Int) (hl : l.length ≤ 1000) : ∀ (d k i : Nat), i + d = l.length → d < k → dy.l0 k l l (l.length : Int) (i : Int) = some true := by
 intro d
 induction d with
 | zero =>
  intro k i hi hk
  obtain ⟨k, rfl⟩ : ∃ m, k = m + 1 := ⟨k - 1, by omega⟩
  rw [dy.l0, if_neg (by omega)]
 | succ d ih =>
  intro k i hi hk
  obtain ⟨k, rfl⟩ : ∃ m, k = m + 1 := ⟨k - 1, by omega⟩
  rw [dy.l0, if_pos (by omega), if_pos (by omega), if_pos (by omega), if_pos (by omega), if_pos rfl, ik _ (by omega) (by omega), show (i : Int) + 1 = ((i + 1 : Nat) : Int) by omega]
  exact ih k (i + 1) (by omega) (by omega)
theorem CZ (s : ByteArray) (hs : s.size ≤ 9223372036854775807) (w : World) : Calls Try.prog 42 #[.string s] w fun e w' => e = .returned (.bool (fS s)) ∧ Below w.heap.size w w' :=
 (jq.calls 9223372036854775808 s _ w (EW s hs _ (Nat.le_refl _))).mono (by
  rintro e w' ⟨rfl, ⟨nd, rfl⟩⟩
  exact ⟨rfl, ab (Below.refl _ _) nd⟩)
theorem wL {x0 x1 x2 x3 x4 x5 : Value} : ∀ (j : Nat) (v : Value), [x2, x3][j]? = some v → [x0, x1, x2, x3, x4, x5][2 + j]? = some v := by
 intro j v h
 match j, h with
 | 0, h => exact h
 | 1, h => exact h
 | j + 2, h => simp at h
theorem oN {o : Oper} {a : Act} {w : World} (ty : TypeId) (x : Operand) (ho : o.op = .load ty x) (g off : Nat) (hx : a.eval x = .pointer (some ⟨g, off, none⟩)) (t : Nat) (cs part : List Value) (d : TypeDesc) (hb : aH w g cs t)
  (hp : ∀ j v, part[j]? = some v → cs[off + j]? = some v)
  (hu : Try.prog.underlying ty = some d) (hd : (match d with | .struct _ | .array _ _ => true | _ => false) = true) (hi : (Try.prog.info? ty).map (·.size) = some part.length) :
  (execOp a.eval o).run Try.prog w = .ok (.value (.agg part.toArray)) w := by
 unfold execOp
 simp only [ho, hx, Instr.loadAt, Instr.sureAddr, Sem.run_bind, Sem.run_pure, Result.andThen_ok, rD w g t off ty cs part d hb hp hu (by cases d <;> exact hd) hi]
theorem qY (oo : List Int) (hl : oo.length ≤ 1000) (A A' : Option Addr) (c c' : Nat) (w : World) (h : Kd.C (Kd.int .u32) w A oo.length oo) (hc : oo.length ≤ c) (h' : Kd.C (Kd.int .u32) w A' oo.length oo) (hc' : oo.length ≤ c') :
  Calls Try.prog 61 #[.slice A oo.length c, .slice A' oo.length c'] w fun e w' => e = .returned (.bool true) ∧ Below w.heap.size w w' :=
 (dy.calls (oo.length + 1) A c oo A' c' oo true w h hc h' hc' (by
  unfold dy.f
  rw [if_pos rfl]
  exact KC oo hl oo.length _ 0 (by omega) (by omega))).mono (by
  rintro e w' ⟨rfl, ⟨nd, rfl⟩⟩
  exact ⟨rfl, ab (Below.refl _ _) nd⟩)
def qC.T7 : Bool × List (List Nat × List Nat) := (true, [([], []), ([], []), ([1], [1]), ([], []), ([3], [3]), ([4], [4]), ([0, 2, 5, 5], [0, 2, 5]), ([6], [6]), ([7], [7]), ([7], [7]), ([7], [7]), ([], []), ([11, 8, 6, 0, 1, 2, 3, 4, 5, 6, 7, 8, 11], [8, 11]), ([9, 12, 0, 1, 2, 3, 4, 5, 6, 7, 8, 9, 11, 12], [9]), ([10, 13, 0, 1, 2, 3, 4, 5, 6, 7, 8, 9, 10, 11, 12, 13], [10])])
def qC.B7 : List Nat := [0, 0, 2, 0, 8, 24, 63, 127, 255, 255, 255, 0, 2559, 7167, 16383]
theorem qC.tab7 : ed .any (opsOf Try.f47 7) = qC.T7 := by kernel_rfl
theorem qC.bits7 : dL qC.T7.2 qC.B7 = true := by kernel_rfl
def ue.T9 : Bool × List (List Nat × List Nat) := (true, [([], []), ([], []), ([], []), ([2], [2]), ([3], [3]), ([4], [4]), ([5, 4, 4], [4, 5]), ([4, 6], [4, 6]), ([7, 6], [7]), ([8], [8]), ([9, 8], [8, 9]), ([10, 8], [8, 10]), ([8, 11], [8, 11]), ([0, 8, 0], [0]), ([1, 13, 0, 1, 13], [1]), ([12, 14, 0, 1, 2, 3, 4, 5, 6, 7, 8, 9, 10, 11, 12, 13, 14], [12])])
def ue.B9 : List Nat := [0, 0, 0, 4, 12, 28, 60, 124, 252, 508, 1020, 2044, 4092, 509, 8703, 32767]
theorem ue.tab9 : ed .any (opsOf Try.f47 9) = ue.T9 := by kernel_rfl
theorem ue.bits9 : dL ue.T9.2 ue.B9 = true := by kernel_rfl
def sO.T11 : Bool × List (List Nat × List Nat) := (true, [([], []), ([], []), ([], []), ([2], [2]), ([3], [3]), ([4], [4]), ([4], [4]), ([5, 6, 4, 4], [4, 5, 6]), ([4, 7], [4, 7]), ([0, 7, 0], [0]), ([1, 9, 0, 1, 9], [1]), ([8, 10, 0, 1, 2, 3, 4, 5, 6, 7, 8, 9, 10], [8])])
def sO.B11 : List Nat := [0, 0, 0, 4, 12, 28, 28, 124, 252, 253, 767, 2047]
theorem sO.tab11 : ed .any (opsOf Try.f47 11) = sO.T11 := by kernel_rfl
theorem sO.bits11 : dL sO.T11.2 sO.B11 = true := by kernel_rfl
def sN.T15 : Bool × List (List Nat × List Nat) := (true, [([], []), ([], []), ([], []), ([2], [2]), ([3], [3]), ([], []), ([5], [5]), ([0, 1, 4, 6], [0, 1, 4, 6]), ([7], [7]), ([7], [7]), ([7], [7]), ([8, 7, 0, 1, 2, 3, 4, 5, 6, 7, 8, 9, 10], [8]), ([9, 11, 0, 1, 2, 3, 4, 5, 6, 7, 8, 9, 10, 11], [9]), ([10, 12, 0, 1, 2, 3, 4, 5, 6, 7, 8, 9, 10, 11, 12], [10])])
def sN.B15 : List Nat := [0, 0, 0, 4, 12, 0, 32, 127, 255, 255, 255, 2047, 4095, 8191]
theorem sN.tab15 : ed .any (opsOf Try.f47 15) = sN.T15 := by kernel_rfl
theorem sN.bits15 : dL sN.T15.2 sN.B15 = true := by kernel_rfl
def sM.T19 : Bool × List (List Nat × List Nat) := (true, [([], []), ([], []), ([], []), ([2], [2]), ([3], [3]), ([4], [4]), ([4], [4]), ([5, 6, 4, 4], [4, 5, 6]), ([4, 7], [4, 7]), ([0, 7, 0], [0]), ([1, 9, 0, 1, 9], [1]), ([8, 10, 0, 1, 2, 3, 4, 5, 6, 7, 8, 9, 10], [8])])
def sM.B19 : List Nat := [0, 0, 0, 4, 12, 28, 28, 124, 252, 253, 767, 2047]
theorem sM.tab19 : ed .any (opsOf Try.f47 19) = sM.T19 := by kernel_rfl
theorem sM.bits19 : dL sM.T19.2 sM.B19 = true := by kernel_rfl
def sL.T23 : Bool × List (List Nat × List Nat) := (true, [([], []), ([], []), ([], []), ([2], [2]), ([3], [3]), ([1, 4], [1, 4]), ([0, 5, 5], [0, 5]), ([6], [6]), ([7], [7]), ([7], [7]), ([], []), ([10, 8, 6, 0, 1, 2, 3, 4, 5, 6, 7, 8, 10], [8, 10]), ([9, 11, 0, 1, 2, 3, 4, 5, 6, 7, 8, 9, 10, 11], [9])])
def sL.B23 : List Nat := [0, 0, 0, 4, 12, 30, 63, 127, 255, 255, 0, 1535, 4095]
theorem sL.tab23 : ed .any (opsOf Try.f47 23) = sL.T23 := by kernel_rfl
theorem sL.bits23 : dL sL.T23.2 sL.B23 = true := by kernel_rfl
def sK.T24 : Bool × List (List Nat × List Nat) := (true, [([], []), ([], []), ([], []), ([2], [2]), ([3], [3]), ([4], [4]), ([4], [4]), ([5, 6, 4, 4], [4, 5, 6]), ([4, 7], [4, 7]), ([0, 7, 0], [0]), ([1, 9, 0, 1, 9], [1]), ([8, 10, 0, 1, 2, 3, 4, 5, 6, 7, 8, 9, 10], [8])])
def sK.B24 : List Nat := [0, 0, 0, 4, 12, 28, 28, 124, 252, 253, 767, 2047]
theorem sK.tab24 : ed .any (opsOf Try.f47 24) = sK.T24 := by kernel_rfl
theorem sK.bits24 : dL sK.T24.2 sK.B24 = true := by kernel_rfl
def sJ.T28 : Bool × List (List Nat × List Nat) := (true, [([], []), ([], []), ([], []), ([2], [2]), ([3], [3]), ([1, 4], [1, 4]), ([0, 5, 5], [0, 5]), ([6], [6]), ([7], [7]), ([7], [7]), ([], []), ([10, 8, 6, 0, 1, 2, 3, 4, 5, 6, 7, 8, 10], [8, 10]), ([9, 11, 0, 1, 2, 3, 4, 5, 6, 7, 8, 9, 10, 11], [9])])
def sJ.B28 : List Nat := [0, 0, 0, 4, 12, 30, 63, 127, 255, 255, 0, 1535, 4095]
theorem sJ.tab28 : ed .any (opsOf Try.f47 28) = sJ.T28 := by kernel_rfl
theorem sJ.bits28 : dL sJ.T28.2 sJ.B28 = true := by kernel_rfl
def sI.T29 : Bool × List (List Nat × List Nat) := (true, [([], []), ([], []), ([], []), ([2], [2]), ([3], [3]), ([4], [4]), ([4], [4]), ([5, 6, 4, 4], [4, 5, 6]), ([4, 7], [4, 7]), ([0, 7, 0], [0]), ([1, 9, 0, 1, 9], [1]), ([8, 10, 0, 1, 2, 3, 4, 5, 6, 7, 8, 9, 10], [8])])
def sI.B29 : List Nat := [0, 0, 0, 4, 12, 28, 28, 124, 252, 253, 767, 2047]
theorem sI.tab29 : ed .any (opsOf Try.f47 29) = sI.T29 := by kernel_rfl
theorem sI.bits29 : dL sI.T29.2 sI.B29 = true := by kernel_rfl
def sH.T33 : Bool × List (List Nat × List Nat) := (true, [([], []), ([], []), ([], []), ([2], [2]), ([3], [3]), ([4], [4]), ([5, 4, 4], [4, 5]), ([4, 6], [4, 6]), ([0, 6, 0], [0]), ([1, 8, 0, 1, 8], [1]), ([7, 9, 0, 1, 2, 3, 4, 5, 6, 7, 8, 9], [7])])
def sH.B33 : List Nat := [0, 0, 0, 4, 12, 28, 60, 124, 125, 383, 1023]
theorem sH.tab33 : ed .any (opsOf Try.f47 33) = sH.T33 := by kernel_rfl
theorem sH.bits33 : dL sH.T33.2 sH.B33 = true := by kernel_rfl
def sG.T36 : Bool × List (List Nat × List Nat) := (true, [([], []), ([], []), ([], []), ([2], [2]), ([0, 0], [0]), ([1, 4, 0, 1, 4], [1]), ([3, 5, 0, 1, 2, 3, 4, 5], [3])])
def sG.B36 : List Nat := [0, 0, 0, 4, 1, 19, 63]
theorem sG.tab36 : ed .any (opsOf Try.f47 36) = sG.T36 := by kernel_rfl
theorem sG.bits36 : dL sG.T36.2 sG.B36 = true := by kernel_rfl
def mw.T37 : Bool × List (List Nat × List Nat) := (true, [([], []), ([], []), ([0, 0], [0]), ([1, 2, 0, 1, 2], [1]), ([3, 0, 1, 2, 3], [])])
def mw.B37 : List Nat := [0, 0, 1, 7, 15]
theorem mw.tab37 : ed .any (opsOf Try.f47 37) = mw.T37 := by kernel_rfl
theorem mw.bits37 : dL mw.T37.2 mw.B37 = true := by kernel_rfl
end Go.Proofs.Ytemhalnhbgkbcaa.V
end

section
namespace Go.Proofs.Ytemhalnhbgkbcaa.V
set_option maxHeartbeats 16000000 in
set_option maxRecDepth 100000 in
theorem PE (b : Bk) (hg : RG b) (n : Int) (hn : n < 9223372036854775808) (a : ln) (eW : a.f0.size ≤ 9223372036854775807) (fA : a.f1.size ≤ 9223372036854775807) (l : List Int) (hu : ∀ x ∈ l, 0 ≤ x ∧ x < 4294967296) (hlm : l.length ≤ 9223372036854775807) (Al : Option Addr) (cl : Nat) (hcl : l.length ≤ cl) (aff : ByteArray) (hza : aff.size ≤ 9223372036854775807) (how : fS aff = true) (v v2 : Value) (w : World) (base : Nat) (hbase : base ≤ w.heap.size) (hO : ey w base v b) (hR : eU w base v2 b) (hC : Kd.C (Kd.int .u32) w Al l.length l) :
  Calls Try.prog 47 #[v, v2, .agg #[.int .i64 7, .int .i64 n, .string a.f0, .string a.f1, .slice Al l.length cl, .string aff]] w fun e w' => ∃ v1 v2 b', e = .returned (.tuple #[v1, v2, .bool true]) ∧ RG b' ∧ ey w' base v1 b' ∧ eU w' base v2 b' ∧ Below w.heap.size w w' := by
 obtain ⟨hl, vf, va, rfl, hf, ha⟩ := hO
 obtain ⟨vs, vp, vm, rfl, hs, hp, hm⟩ := hR
 obtain ⟨Af, cf, rfl⟩ := Kd.R_slice hf
 obtain ⟨Aa, ca, rfl⟩ := Kd.R_slice ha
 obtain ⟨As, cs, rfl⟩ := Kd.R_slice hs
 obtain ⟨Ap, cp, rfl⟩ := Kd.R_slice hp
 obtain ⟨M, hM⟩ : ∃ M, M = b.attrs.map vc := ⟨_, rfl⟩
 rw [← hM] at hm
 obtain ⟨Am, cm, rfl⟩ := Kd.R_slice hm
 have HL := ak hl
 have HM := ak hM
 have bw := ak hf
 have eh := ak ha
 have aV := ak hs
 have eo := ak hp
 have bS := ak hm
 have HG := ak hg
 have ag := ak (Below.refl w.heap.size w)
 have HBASE := ak hbase
 have HLB := ak (ch (aU b.addr b.aff b.slots (.slice Af b.free.length cf) (.slice Aa b.attrs.length ca)) (ah _ _ _ _ _ HL.out))
 obtain ⟨lt, hlt⟩ : ∃ lt, lt = l.take 80 := ⟨_, rfl⟩
 have hut : ∀ x ∈ lt, 0 ≤ x ∧ x < 4294967296 := fun x hx => hu x (by rw [hlt] at hx; exact List.mem_of_mem_take hx)
 have hll : lt.length = min 80 l.length := by rw [hlt, List.length_take]
 have HCL := ak hcl
 have HLL := ak hll
 have HC := ak hC
 have HCT := ak (fun W (I : Below w.heap.size w W) => (show Kd.C (Kd.int .u32) W Al lt.length lt by
  rcases Nat.lt_or_ge 80 l.length with h | h
  ·have h_ := Kd.C_take (m := 80) (Kd.C_below hC I) (by omega)
   rw [← hlt] at h_
   exact h_
  ·have h_ := Kd.C_below hC I
   have e : lt = l := by rw [hlt, List.take_of_length_le h]
   rw [e]
   exact h_))
 have hbl := fun v w h => Fu b hg.ok (by have := hg.sum; omega) (by have := hg.na; omega) aff v w h
 rw [hg.right, how, Bool.true_and] at hbl
 rw [if_pos rfl] at hbl
 have HOW := ak (fun w => CZ aff hza w)
 rw [how] at HOW
 have hrg := hg.own aff how
 obtain ⟨nb, hnb⟩ : ∃ nb, nb = Gy b aff := ⟨_, rfl⟩
 have hq : nb.addr = b.addr ∧ nb.aff = aff ∧ nb.slots = b.slots ∧ nb.free = b.free ∧ nb.attrs = b.attrs := by rw [hnb]; exact ⟨rfl, rfl, rfl, rfl, rfl⟩
 rw [← hnb] at hbl hrg
 have HRG := ak hrg
 have HQ := ak hq
 have HNL := ak hrg.l64
 have HLN := fun A8 c8 A9 c9 => ch (aU nb.addr nb.aff nb.slots (.slice A8 nb.free.length c8) (.slice A9 nb.attrs.length c9)) (ah _ _ _ _ _ HNL.out)
 have HCP := ak (fun w h => Cv b (by omega) (by have := hg.sum; omega) M (by rw [hM, List.length_map]; have := hg.na; omega) As cs Ap cp Am cm w h)
 have HBL := ak hbl
 clear how hrg hnb hq hbl
 clear hl hM hf ha hs hp hm hbase hC hu hut hll hcl hlt hg
 go_enter Try.func47, Try.ntmps47
 go_upto_if 37 with (first
  | (refine aD rfl 57 (.tmp 0) rfl _ rfl ?_; intro gX W1 J aa I; have cg := ge ag J; have ao := ak (ag.out.trans (I.mono ag.out.size)); have bp := mv I bw; have dk := mv I eh; have bb := mv I aV; have dg := mv I eo; have bN := mv I bS; have aj := ak (aa); clear J aa I ag bw eh aV eo bS)
  | (refine aD rfl 62 (.tmp 1) rfl _ rfl ?_; intro gY W2 J aa I; have j8 := ge ao J; have gC := ne aj J; have ay := mv I ao; have bX := mv I bp; have dG := mv I dk; have bK := mv I bb; have di := mv I dg; have cC := mv I bN; have aw := mv I aj; have cA := ak (aa); clear J aa I ao bp dk bb dg bN aj)
  | (refine aD rfl 79 (.tmp 2) rfl _ rfl ?_; intro gT W3 J aa I; have kE := ge ay J; have ie := ne aw J; have iI := ne cA J; have aE := mv I ay; have cy := mv I bX; have dU := mv I dG; have b6 := mv I bK; have dS := mv I di; have da := mv I cC; have aC := mv I aw; have cB := mv I cA; have dN := ak (aa); clear J aa I ay bX dG bK di cC aw cA)
  | (refine au (some 6) rfl rfl 57 rfl a6 bT ?_; intro gZ W4 J aa I; have cb := ge aE J; have aG := ne aC J; have gP := ne cB J; have jS := ne dN J; have a8 := mv I aE; have cx := mv I cy; have dF := mv I dU; have cw := mv I b6; have eb := mv I dS; have cR := mv I da; have aY := mv I aC; have b5 := mv I cB; have dR := mv I dN; have bd := ak (aa); clear J aa I aE cy dU b6 dS da aC cB dN)
  | (refine au (some 7) rfl rfl 62 rfl dH (fun _ => by kernel_rfl) ?_; intro gU W5 J aa I; have fG := ge a8 J; have gR := ne aY J; have dw := ne b5 J; have jT := ne dR J; have gO := ne bd J; have bj := mv I a8; have cj := mv I cx; have cW := mv I dF; have cQ := mv I cw; have ek := mv I eb; have cH := mv I cR; have bc := mv I aY; have cY := mv I b5; have bB := mv I dR; have bI := mv I bd; have eV := ak (aa); have jP := bB.out.cell 0 _ rfl; have ic := bB.out.cell 1 _ rfl; have jO := bB.out.cell 2 _ rfl; have jN := bB.out.cell 3 _ rfl; have jM := bB.out.cell 4 _ rfl; have gN := bB.out.cell 5 _ rfl; clear J aa I a8 cx dF cw eb cR aY b5 dR bd))
 go_cut [9] from 37 to 39 (fun s9 wx => s9 = .slice Al lt.length cl ∧ W5 = wx)
 case first =>
  rcases Nat.lt_or_ge 80 l.length with lY | lY
  ·have lX : decide ((80 : Int) < (l.length : Int)) = true := by simp; omega
   have we : (((0 : Int) ≤ 80 ∧ (80 : Int) ≤ (cl : Int)) = True) := eq_true ⟨by omega, by have := HCL.out; omega⟩
   have wb : (((80 : Int) ≤ (cl : Int)) = True) := eq_true (by have := HCL.out; omega)
   go_wp2_with fail
   go_meet
   exact ⟨by rw [HLL.out, Nat.min_eq_left (by omega)], rfl⟩
  ·have lX : decide ((80 : Int) < (l.length : Int)) = false := by simp; omega
   go_wp2_with fail
   go_meet
   exact ⟨by rw [HLL.out, Nat.min_eq_right (by omega)], rfl⟩
 case rest =>
 obtain ⟨gy, gw⟩ := hcut
 subst gy
 subst gw
 go_wp2_with (first
  | ((with_reducible refine av (N := 208) rfl ?_); refine az rfl 57 (.tmp 3) rfl gX rfl _ _ _ bc.out Try.underlying57 rfl 68 (by kernel_rfl) (ah _ _ _ _ _ HL.out) ?_)
  | (go_at_call 55; refine (HBL.out _ _ ⟨_, _, _, _, rfl, ⟨HL.out, (rr cj).1, (rr cj).2, (rr cW).1, (rr cW).2⟩⟩).mono ?_; rintro e W6 ⟨v_, rfl, aW, I⟩; have HSZ := ak (lb HBASE bj); obtain ⟨kS, sw, sy, rfl, dQ, eE⟩ := aW; obtain ⟨A8, c8, rfl⟩ := Kd.R_slice dQ; obtain ⟨A9, c9, rfl⟩ := Kd.R_slice eE; have bO := mv I bj; have cU := mv I cj; have dt := mv I cW; have cZ := mv I cQ; have er := mv I ek; have dE := mv I cH; have bl := mv I bc; have dh := mv I cY; have fy := mv I bB; have bW := mv I bI; have eg := mv I eV; have pB := ak (Kd.R_lower dQ HSZ.out); have pr := ak (Kd.R_lower eE HSZ.out); clear HSZ kS dQ eE I bj cj cW cQ ek cH bc cY bB bI eV jP ic jO jN jM gN)
  | (refine au (some 30) rfl rfl 57 rfl a6 bT ?_; intro gQ W7 J aa I; have cE := ge bO J; have bk := ne bl J; have vJ := ne dh J; have vM := ne fy J; have a7 := ne bW J; have vK := ne eg J; have ew := mv I bO; have fu := mv I cU; have j7 := mv I dt; have gE := mv I cZ; have n8 := mv I er; have ky := mv I dE; have dI := mv I bl; have lf := mv I dh; have o6 := mv I fy; have dz := mv I bW; have o5 := mv I eg; have pA := mv I pB; have pq := mv I pr; have dx := ak (aa); clear J aa I bO cU dt cZ er dE bl dh fy bW eg pB pr)
  | (refine aK rfl 57 (.tmp 30) (.tmp 212) rfl gQ (aU nb.addr nb.aff nb.slots (.slice A8 nb.free.length c8) (.slice A9 nb.attrs.length c9)) rfl rfl 57 _ dx.out 68 (by kernel_rfl) (ah _ _ _ _ _ HNL.out) rfl (b7 _ _ _ _ _ rfl rfl) ?_; intro W8 aa J; have iM := gb ew cE J; have kH := gr fu dx J; have kG := gr j7 dx J; have mo := gr gE dx J; have n7 := gr n8 dx J; have oa := gr ky dx J; have iK := gn dI bk J; have nY := gx lf dx J; have nB := gx o6 dx J; have jc := gn dz a7 J; have oZ := gx o5 dx J; have pz := gr pA dx J; have pn := gr pq dx J; have pa := ak (aa); have gN := nB.out.cell 5 _ rfl; clear aa J ew fu j7 gE n8 ky dI lf o6 dz o5 pA pq dx)
  | (go_at_call 42; refine (HOW.out _).mono ?_; rintro e W9 ⟨rfl, I⟩; have lO := mv I iM; have od := mv I kH; have oc := mv I kG; have lN := mv I mo; have n6 := mv I n7; have n9 := mv I oa; have lM := mv I iK; have nz := mv I nY; have nA := mv I nB; have ml := mv I jc; have nZ := mv I oZ; have pw := mv I pz; have ph := mv I pn; have n2 := mv I pa; have gN := nA.out.cell 5 _ rfl; clear I iM kH kG mo n7 oa iK nY nB jc oZ pz pn pa gN)
  | ((with_reducible refine av (N := 226) rfl ?_); refine az rfl 62 (.tmp 4) rfl gY rfl _ _ _ nz.out Try.underlying62 rfl 5 (by kernel_rfl) rfl ?_)
  | (go_at_call 85; refine (HCP.out _ (ki.of HM.out lN.out n6.out n9.out)).mono ?_; rintro e Es ⟨wz, sx, sA, rfl, gz, fp, eH, I⟩; have HSZ := ak (lb HBASE lO); obtain ⟨A1, c1, rfl⟩ := Kd.R_slice gz; obtain ⟨A2, c2, rfl⟩ := Kd.R_slice fp; obtain ⟨A3, c3, rfl⟩ := Kd.R_slice eH; have pD := mv I lO; have tL := mv I od; have tI := mv I oc; have o8 := mv I lN; have tz := mv I n6; have tE := mv I n9; have nR := mv I lM; have q9 := mv I nz; have re := mv I nA; have oW := mv I ml; have ra := mv I nZ; have tR := mv I pw; have tO := mv I ph; have ri := mv I n2; have tF := ak (Kd.R_mono (ok' := fun _ => True) (Kd.R_lower gz HSZ.out) (fun _ _ => trivial)); have zR := ak (Kd.R_mono (ok' := fun _ => True) (Kd.R_lower fp HSZ.out) (fun _ _ => trivial)); have Ad := ak (Kd.R_mono (ok' := fun _ => True) (Kd.R_lower eH HSZ.out) (fun _ _ => trivial)); clear HSZ gz fp eH I lO od oc lN n6 n9 lM nz nA ml nZ pw ph n2 gN)
  | (refine au (some 32) rfl rfl 62 rfl dH (fun _ => by kernel_rfl) ?_; intro gV Jf J aa I; have db := ge pD J; have fx := ne nR J; have eN := ne q9 J; have vL := ne re J; have ku := ne oW J; have ef := ne ra J; have vN := ne ri J; have tV := mv I pD; have z8 := mv I tL; have z2 := mv I tI; have tr := mv I o8; have zF := mv I tz; have zM := mv I tE; have oY := mv I nR; have zj := mv I q9; have zs := mv I re; have tf := mv I oW; have zq := mv I ra; have Av := mv I tR; have Ai := mv I tO; have zB := mv I ri; have rj := mv I tF; have zQ := mv I zR; have Ac := mv I Ad; have j5 := ak (aa); clear J aa I pD tL tI o8 tz tE nR q9 re oW ra tR tO ri tF zR Ad)
  | (refine aK rfl 62 (.tmp 32) (.tmp 227) rfl gV (dj b.addr b.aff (.slice A1 b.slots.length c1) (.slice A2 b.free.length c2) (.slice A3 M.length c3)) rfl rfl 62 _ j5.out 5 (by kernel_rfl) rfl rfl (dM _ _ rfl rfl rfl) ?_; intro Je aa J; have tU := gb tV db J; have z7 := gr z8 j5 J; have zZ := gr z2 j5 J; have rf := gr tr j5 J; have zE := gr zF j5 J; have zL := gr zM j5 J; have oX := gx oY j5 J; have zi := gn zj eN J; have xz := gx zs j5 J; have q8 := gx tf j5 J; have zp := gn zq ef J; have Ar := gr Av j5 J; have Ah := gr Ai j5 J; have zA := gx zB j5 J; have qd := gr rj j5 J; have zP := gr zQ j5 J; have Ab := gr Ac j5 J; have jk := ak (aa); have gN := xz.out.cell 5 _ rfl; have mf := jk.out.cell 1 _ rfl; have Tv := jk.out.frozen 1; clear aa J tV z8 z2 tr zF zM oY zj zs tf zq Av Ai zB rj zQ Ac j5))
 generalize bY : Je.setCell ⟨gV, 1, none⟩ (.string aff) = Jd; have J : Je.grownBy Jd (some gV) := (by rw [← bY]; exact bs _ _ _ _); have AD := gb tU db J; have z6 := gr z7 jk J; have zY := gr zZ jk J; have zw := gr rf jk J; have LS := gr zE jk J; have Mb := gr zL jk J; have qc := gx oX jk J; have LB := gn zi eN J; have LM := gx xz jk J; have zf := gx q8 jk J; have LG := gn zp ef J; have My := gr Ar jk J; have Mw := gr Ah jk J; have LQ := gx zA jk J; have zU := gr qd jk J; have Mi := gr zP jk J; have Mt := gr Ab jk J; have G5 := ak (jk.out.set 1 (.string aff)); rw [bY] at G5; clear bY J tU z7 zZ rf zE zL oX zi xz q8 zp Ar Ah zA qd zP Ab jk gN mf Tv
 have al : Below Jd.heap.size Jd Jd.drew := br (Below.refl _ _)
 have AB := mv al AD; have z5 := mv al z6; have zX := mv al zY; have zv := mv al zw; have LR := mv al LS; have Ma := mv al Mb; have tl := mv al qc; have LA := mv al LB; have LL := mv al LM; have te := mv al zf; have LF := mv al LG; have Mx := mv al My; have Mu := mv al Mw; have LP := mv al LQ; have zT := mv al zU; have Mh := mv al Mi; have Ms := mv al Mt; have LC := mv al G5
 clear al AD z6 zY zw LS Mb qc LB LM zf LG My Mw LQ zU Mi Mt G5
 have hB := AB
 have hF := z5
 have hG := zX
 have hS := zv
 have hP := LR
 have hM := Ma
 have hX := tl
 have hY := LA
 have hT := LL
 have hZ := te
 have hU := LF
 have hC := Mx
 have hD := Mu
 have hQ := LP
 have hI := zT
 have hJ := Mh
 have hE := Ms
 have hV := LC
 clear AB z5 zX zv LR Ma tl LA LL te LF Mx Mu LP zT Mh Ms LC
 refine dd (n := 7) (S := fun w' => aH w' gQ (aU nb.addr nb.aff nb.slots (.slice A8 nb.free.length c8) (.slice A9 nb.attrs.length c9)) 57 ∧ aH w' gV (dj b.addr aff (.slice A1 b.slots.length c1) (.slice A2 b.free.length c2) (.slice A3 M.length c3)) 62) (ds := []) #[false, false, false, false, false, false, false] (by kernel_rfl) rfl rfl ⟨hQ.out, hV.out⟩ (fun hHeld => ?_); refine bQ sG.tab36 sG.bits36 (fun ae bA => ?_)
 refine tk 0 ae.out bA.out hHeld ?_ (hv := by exact fun _ aZ => aQ 57 (.tmp 30) rfl gQ rfl _ _ _ aZ.1 Try.underlying57 rfl (HLN _ _ _ _))
 refine tk 1 ae.out bA.out hHeld ?_ (hv := by exact fun _ aZ => aQ 62 (.tmp 32) rfl gV rfl _ _ _ aZ.2 Try.underlying62 rfl (by kernel_rfl))
 refine pu 2 ae.out ?_
 refine pu 3 ae.out ?_
 refine ow 4 ae.out (fun K hK => ?_)
 refine bJ (by rfl) rfl 57 (.tmp 6) (.tmp 231) rfl gZ (aU nb.addr nb.aff nb.slots (.slice A8 nb.free.length c8) (.slice A9 nb.attrs.length c9)) rfl rfl 57 _ hZ.out 68 (by kernel_rfl) (ah _ _ _ _ _ HNL.out) rfl (b7 _ _ _ _ _ rfl rfl) ?_
 intro V4 aa J; replace hB := gb hB cb J; replace hF := gr hF hZ J; replace hG := gr hG hZ J; replace hS := gr hS hZ J; replace hP := gr hP hZ J; replace hM := gr hM hZ J; replace hX := gn hX aG J; replace hY := gx hY hZ J; replace hT := gx hT hZ J; replace hU := gx hU hZ J; replace hC := gr hC hZ J; replace hD := gr hD hZ J; replace hQ := gm hQ a7 J; replace hI := gr hI hZ J; replace hJ := gr hJ hZ J; replace hE := gr hE hZ J; replace hV := gx hV hZ J; replace hZ := ak (aa); clear aa J
 refine hK.out _ _ ⟨hQ.out, hV.out⟩ (fun hHeld => ?_)
 clear hK K
 refine ow 5 ae.out (fun K hK => ?_)
 refine bJ (by rfl) rfl 62 (.tmp 7) (.tmp 232) rfl gU (dj b.addr aff (.slice A1 b.slots.length c1) (.slice A2 b.free.length c2) (.slice A3 M.length c3)) rfl rfl 62 _ hU.out 5 (by kernel_rfl) rfl rfl (dM _ _ rfl rfl rfl) ?_
 intro V5 aa J; replace hB := gb hB fG J; replace hF := gr hF hU J; replace hG := gr hG hU J; replace hS := gr hS hU J; replace hP := gr hP hU J; replace hM := gr hM hU J; replace hX := gx hX hU J; replace hY := gn hY dw J; replace hT := gx hT hU J; replace hZ := gx hZ hU J; replace hC := gr hC hU J; replace hD := gr hD hU J; replace hQ := gx hQ hU J; replace hI := gr hI hU J; replace hJ := gr hJ hU J; replace hE := gr hE hU J; replace hV := gm hV ef J; replace hU := ak (aa); clear aa J
 refine hK.out _ _ ⟨hQ.out, hV.out⟩ (fun hHeld => ?_)
 clear hK K
 refine pu 6 ae.out ?_
 refine dn ae.out ?_
 clear hHeld
 go_wp2_with fail
 refine bodyPost_ret (e6 rfl _ _ _ gZ gU 57 62 _ _ _ _ rfl hZ.out rfl Try.underlying57 (HLN _ _ _ _) rfl hU.out rfl Try.underlying62 (by kernel_rfl)) rfl ⟨_, _, nb, rfl, HRG.out, ⟨HNL.out, _, _, rfl, hC.out, hD.out⟩, ?_, hB.out⟩
 obtain ⟨e1, e2, e3, e4, e5⟩ := HQ.out
 exact ⟨_, _, _, by rw [e1, e2], by rw [e3]; exact hI.out, by rw [e4]; exact hJ.out, by rw [e5, ← HM.out]; exact hE.out⟩
set_option maxHeartbeats 16000000 in
set_option maxRecDepth 100000 in
theorem NA (b : Bk) (hg : RG b) (n : Int) (hn : n < 9223372036854775808) (a : ln) (eW : a.f0.size ≤ 9223372036854775807) (fA : a.f1.size ≤ 9223372036854775807) (l : List Int) (hu : ∀ x ∈ l, 0 ≤ x ∧ x < 4294967296) (hlm : l.length ≤ 9223372036854775807) (Al : Option Addr) (cl : Nat) (hcl : l.length ≤ cl) (aff : ByteArray) (hza : aff.size ≤ 9223372036854775807) (how : fS aff = false) (v v2 : Value) (w : World) (base : Nat) (hbase : base ≤ w.heap.size) (hO : ey w base v b) (hR : eU w base v2 b) (hC : Kd.C (Kd.int .u32) w Al l.length l) :
  Calls Try.prog 47 #[v, v2, .agg #[.int .i64 7, .int .i64 n, .string a.f0, .string a.f1, .slice Al l.length cl, .string aff]] w fun e w' => ∃ v1 v2 b', e = .returned (.tuple #[v1, v2, .bool true]) ∧ RG b' ∧ ey w' base v1 b' ∧ eU w' base v2 b' ∧ Below w.heap.size w w' := by
 obtain ⟨hl, vf, va, rfl, hf, ha⟩ := hO
 obtain ⟨vs, vp, vm, rfl, hs, hp, hm⟩ := hR
 obtain ⟨Af, cf, rfl⟩ := Kd.R_slice hf
 obtain ⟨Aa, ca, rfl⟩ := Kd.R_slice ha
 obtain ⟨As, cs, rfl⟩ := Kd.R_slice hs
 obtain ⟨Ap, cp, rfl⟩ := Kd.R_slice hp
 obtain ⟨M, hM⟩ : ∃ M, M = b.attrs.map vc := ⟨_, rfl⟩
 rw [← hM] at hm
 obtain ⟨Am, cm, rfl⟩ := Kd.R_slice hm
 have HL := ak hl
 have HM := ak hM
 have bw := ak hf
 have eh := ak ha
 have aV := ak hs
 have eo := ak hp
 have bS := ak hm
 have HG := ak hg
 have ag := ak (Below.refl w.heap.size w)
 have HBASE := ak hbase
 have HLB := ak (ch (aU b.addr b.aff b.slots (.slice Af b.free.length cf) (.slice Aa b.attrs.length ca)) (ah _ _ _ _ _ HL.out))
 obtain ⟨lt, hlt⟩ : ∃ lt, lt = l.take 80 := ⟨_, rfl⟩
 have hut : ∀ x ∈ lt, 0 ≤ x ∧ x < 4294967296 := fun x hx => hu x (by rw [hlt] at hx; exact List.mem_of_mem_take hx)
 have hll : lt.length = min 80 l.length := by rw [hlt, List.length_take]
 have HCL := ak hcl
 have HLL := ak hll
 have HC := ak hC
 have HCT := ak (fun W (I : Below w.heap.size w W) => (show Kd.C (Kd.int .u32) W Al lt.length lt by
  rcases Nat.lt_or_ge 80 l.length with h | h
  ·have h_ := Kd.C_take (m := 80) (Kd.C_below hC I) (by omega)
   rw [← hlt] at h_
   exact h_
  ·have h_ := Kd.C_below hC I
   have e : lt = l := by rw [hlt, List.take_of_length_le h]
   rw [e]
   exact h_))
 have hbl := fun v w h => Fu b hg.ok (by have := hg.sum; omega) (by have := hg.na; omega) aff v w h
 rw [hg.right, how, Bool.true_and] at hbl
 rw [if_neg (by decide), if_neg (by decide)] at hbl
 have HOW := ak (fun w => CZ aff hza w)
 rw [how] at HOW
 obtain ⟨nb, hnb⟩ : ∃ nb, nb = km := ⟨_, rfl⟩
 have hnl : km.slots.length = 64 := rfl
 rw [← hnb] at hbl hnl
 have HNB := ak hnb
 have HNL := ak hnl
 have HLN := fun A8 c8 A9 c9 => ch (aU nb.addr nb.aff nb.slots (.slice A8 nb.free.length c8) (.slice A9 nb.attrs.length c9)) (ah _ _ _ _ _ HNL.out)
 have HZR := ak (fun v w h => pO v w (by rw [← HNB.out]; exact h))
 have HBL := ak hbl
 clear how hnb hnl hbl
 clear hl hM hf ha hs hp hm hbase hC hu hut hll hcl hlt hg
 go_enter Try.func47, Try.ntmps47
 go_upto_if 37 with (first
  | (refine aD rfl 57 (.tmp 0) rfl _ rfl ?_; intro gX W1 J aa I; have cg := ge ag J; have ao := ak (ag.out.trans (I.mono ag.out.size)); have bp := mv I bw; have dk := mv I eh; have bb := mv I aV; have dg := mv I eo; have bN := mv I bS; have aj := ak (aa); clear J aa I ag bw eh aV eo bS)
  | (refine aD rfl 62 (.tmp 1) rfl _ rfl ?_; intro gY W2 J aa I; have j8 := ge ao J; have gC := ne aj J; have ay := mv I ao; have bX := mv I bp; have dG := mv I dk; have bK := mv I bb; have di := mv I dg; have cC := mv I bN; have aw := mv I aj; have cA := ak (aa); clear J aa I ao bp dk bb dg bN aj)
  | (refine aD rfl 79 (.tmp 2) rfl _ rfl ?_; intro gT W3 J aa I; have kE := ge ay J; have ie := ne aw J; have iI := ne cA J; have aE := mv I ay; have cy := mv I bX; have dU := mv I dG; have b6 := mv I bK; have dS := mv I di; have da := mv I cC; have aC := mv I aw; have cB := mv I cA; have dN := ak (aa); clear J aa I ay bX dG bK di cC aw cA)
  | (refine au (some 6) rfl rfl 57 rfl a6 bT ?_; intro gZ W4 J aa I; have cb := ge aE J; have aG := ne aC J; have gP := ne cB J; have jS := ne dN J; have a8 := mv I aE; have cx := mv I cy; have dF := mv I dU; have cw := mv I b6; have eb := mv I dS; have cR := mv I da; have aY := mv I aC; have b5 := mv I cB; have dR := mv I dN; have bd := ak (aa); clear J aa I aE cy dU b6 dS da aC cB dN)
  | (refine au (some 7) rfl rfl 62 rfl dH (fun _ => by kernel_rfl) ?_; intro gU W5 J aa I; have fG := ge a8 J; have gR := ne aY J; have dw := ne b5 J; have jT := ne dR J; have gO := ne bd J; have bj := mv I a8; have cj := mv I cx; have cW := mv I dF; have cQ := mv I cw; have ek := mv I eb; have cH := mv I cR; have bc := mv I aY; have cY := mv I b5; have bB := mv I dR; have bI := mv I bd; have eV := ak (aa); have jP := bB.out.cell 0 _ rfl; have ic := bB.out.cell 1 _ rfl; have jO := bB.out.cell 2 _ rfl; have jN := bB.out.cell 3 _ rfl; have jM := bB.out.cell 4 _ rfl; have gN := bB.out.cell 5 _ rfl; clear J aa I a8 cx dF cw eb cR aY b5 dR bd))
 go_cut [9] from 37 to 39 (fun s9 wx => s9 = .slice Al lt.length cl ∧ W5 = wx)
 case first =>
  rcases Nat.lt_or_ge 80 l.length with lY | lY
  ·have lX : decide ((80 : Int) < (l.length : Int)) = true := by simp; omega
   have we : (((0 : Int) ≤ 80 ∧ (80 : Int) ≤ (cl : Int)) = True) := eq_true ⟨by omega, by have := HCL.out; omega⟩
   have wb : (((80 : Int) ≤ (cl : Int)) = True) := eq_true (by have := HCL.out; omega)
   go_wp2_with fail
   go_meet
   exact ⟨by rw [HLL.out, Nat.min_eq_left (by omega)], rfl⟩
  ·have lX : decide ((80 : Int) < (l.length : Int)) = false := by simp; omega
   go_wp2_with fail
   go_meet
   exact ⟨by rw [HLL.out, Nat.min_eq_right (by omega)], rfl⟩
 case rest =>
 obtain ⟨gy, gw⟩ := hcut
 subst gy
 subst gw
 go_wp2_with (first
  | ((with_reducible refine av (N := 208) rfl ?_); refine az rfl 57 (.tmp 3) rfl gX rfl _ _ _ bc.out Try.underlying57 rfl 68 (by kernel_rfl) (ah _ _ _ _ _ HL.out) ?_)
  | (go_at_call 55; refine (HBL.out _ _ ⟨_, _, _, _, rfl, ⟨HL.out, (rr cj).1, (rr cj).2, (rr cW).1, (rr cW).2⟩⟩).mono ?_; rintro e W6 ⟨v_, rfl, aW, I⟩; have HSZ := ak (lb HBASE bj); obtain ⟨kS, sw, sy, rfl, dQ, eE⟩ := aW; obtain ⟨A8, c8, rfl⟩ := Kd.R_slice dQ; obtain ⟨A9, c9, rfl⟩ := Kd.R_slice eE; have bO := mv I bj; have cU := mv I cj; have dt := mv I cW; have cZ := mv I cQ; have er := mv I ek; have dE := mv I cH; have bl := mv I bc; have dh := mv I cY; have fy := mv I bB; have bW := mv I bI; have eg := mv I eV; have pB := ak (Kd.R_lower dQ HSZ.out); have pr := ak (Kd.R_lower eE HSZ.out); clear HSZ kS dQ eE I bj cj cW cQ ek cH bc cY bB bI eV jP ic jO jN jM gN)
  | (refine au (some 30) rfl rfl 57 rfl a6 bT ?_; intro gQ W7 J aa I; have cE := ge bO J; have bk := ne bl J; have vJ := ne dh J; have vM := ne fy J; have a7 := ne bW J; have vK := ne eg J; have ew := mv I bO; have fu := mv I cU; have j7 := mv I dt; have gE := mv I cZ; have n8 := mv I er; have ky := mv I dE; have dI := mv I bl; have lf := mv I dh; have o6 := mv I fy; have dz := mv I bW; have o5 := mv I eg; have pA := mv I pB; have pq := mv I pr; have dx := ak (aa); clear J aa I bO cU dt cZ er dE bl dh fy bW eg pB pr)
  | (refine aK rfl 57 (.tmp 30) (.tmp 212) rfl gQ (aU nb.addr nb.aff nb.slots (.slice A8 nb.free.length c8) (.slice A9 nb.attrs.length c9)) rfl rfl 57 _ dx.out 68 (by kernel_rfl) (ah _ _ _ _ _ HNL.out) rfl (b7 _ _ _ _ _ rfl rfl) ?_; intro W8 aa J; have iM := gb ew cE J; have kH := gr fu dx J; have kG := gr j7 dx J; have mo := gr gE dx J; have n7 := gr n8 dx J; have oa := gr ky dx J; have iK := gn dI bk J; have nY := gx lf dx J; have nB := gx o6 dx J; have jc := gn dz a7 J; have oZ := gx o5 dx J; have pz := gr pA dx J; have pn := gr pq dx J; have pa := ak (aa); have gN := nB.out.cell 5 _ rfl; clear aa J ew fu j7 gE n8 ky dI lf o6 dz o5 pA pq dx)
  | (go_at_call 42; refine (HOW.out _).mono ?_; rintro e W9 ⟨rfl, I⟩; have lO := mv I iM; have od := mv I kH; have oc := mv I kG; have lN := mv I mo; have n6 := mv I n7; have n9 := mv I oa; have lM := mv I iK; have nz := mv I nY; have nA := mv I nB; have ml := mv I jc; have nZ := mv I oZ; have pw := mv I pz; have ph := mv I pn; have n2 := mv I pa; clear I iM kH kG mo n7 oa iK nY nB jc oZ pz pn pa gN))
 have al : Below W9.heap.size W9 W9.drew := br (Below.refl _ _)
 have pD := mv al lO; have tL := mv al od; have tI := mv al oc; have o8 := mv al lN; have tz := mv al n6; have tE := mv al n9; have nR := mv al lM; have q9 := mv al nz; have re := mv al nA; have oW := mv al ml; have ra := mv al nZ; have tR := mv al pw; have tO := mv al ph; have ri := mv al n2
 clear al lO od oc lN n6 n9 lM nz nA ml nZ pw ph n2
 have hB := pD
 have hF := tL
 have hG := tI
 have hS := o8
 have hP := tz
 have hM := tE
 have hX := nR
 have hY := q9
 have hT := re
 have hZ := oW
 have hU := ra
 have hC := tR
 have hD := tO
 have hQ := ri
 clear pD tL tI o8 tz tE nR q9 re oW ra tR tO ri
 refine dd (n := 11) (S := fun w' => aH w' gX (aU b.addr b.aff b.slots (.slice Af b.free.length cf) (.slice Aa b.attrs.length ca)) 57 ∧ aH w' gY (dj b.addr b.aff (.slice As b.slots.length cs) (.slice Ap b.free.length cp) (.slice Am M.length cm)) 62 ∧ aH w' gQ (aU nb.addr nb.aff nb.slots (.slice A8 nb.free.length c8) (.slice A9 nb.attrs.length c9)) 57) (ds := []) #[false, false, false, false, false, false, false, false, false, false, false] (by kernel_rfl) rfl rfl ⟨hX.out, hY.out, hQ.out⟩ (fun hHeld => ?_); refine bQ sH.tab33 sH.bits33 (fun ae bA => ?_)
 refine tk 0 ae.out bA.out hHeld ?_ (hv := by exact fun _ aZ => aQ 57 (.tmp 3) rfl gX rfl _ _ _ aZ.1 Try.underlying57 rfl HLB.out)
 refine tk 1 ae.out bA.out hHeld ?_ (hv := by exact fun _ aZ => aQ 62 (.tmp 4) rfl gY rfl _ _ _ aZ.2.1 Try.underlying62 rfl (by kernel_rfl))
 refine pu 2 ae.out ?_
 refine pu 3 ae.out ?_
 refine pu 4 ae.out ?_
 refine tk 5 ae.out bA.out hHeld ?_ (hv := by exact fun _ aZ => aQ 57 (.tmp 30) rfl gQ rfl _ _ _ aZ.2.2 Try.underlying57 rfl (HLN _ _ _ _))
 refine on 6 ae.out (fun K hK => ?_)
 refine gs Try.func43 #[.agg (aU nb.addr nb.aff nb.slots (.slice A8 nb.free.length c8) (.slice A9 nb.attrs.length c9)).toArray] (HZR.out _ _ ⟨_, _, _, _, rfl, ⟨HNL.out, (rr hC).1, (rr hC).2, (rr hD).1, (rr hD).2⟩⟩) ?_
 rintro e V6 ⟨rfl, I⟩
 refine ⟨_, rfl, ?_⟩
 replace hB := mv I hB; replace hF := mv I hF; replace hG := mv I hG; replace hS := mv I hS; replace hP := mv I hP; replace hM := mv I hM; replace hX := mv I hX; replace hY := mv I hY; replace hT := mv I hT; replace hZ := mv I hZ; replace hU := mv I hU; replace hC := mv I hC; replace hD := mv I hD; replace hQ := mv I hQ
 refine kn hK ⟨hX.out, hY.out, hQ.out⟩ (fun hHeld => ?_)
 clear hK K
 refine pu 7 ae.out ?_
 refine ow 8 ae.out (fun K hK => ?_)
 refine bJ (by rfl) rfl 57 (.tmp 6) (.tmp 218) rfl gZ (aU b.addr b.aff b.slots (.slice Af b.free.length cf) (.slice Aa b.attrs.length ca)) rfl rfl 57 _ hZ.out 68 (by kernel_rfl) (ah _ _ _ _ _ HL.out) rfl (b7 _ _ _ _ _ rfl rfl) ?_
 intro V8 aa J; replace hB := gb hB cb J; replace hF := gr hF hZ J; replace hG := gr hG hZ J; replace hS := gr hS hZ J; replace hP := gr hP hZ J; replace hM := gr hM hZ J; replace hX := gn hX aG J; replace hY := gx hY hZ J; replace hT := gx hT hZ J; replace hU := gx hU hZ J; replace hC := gr hC hZ J; replace hD := gr hD hZ J; replace hQ := gm hQ a7 J; replace hZ := ak (aa); clear aa J
 refine hK.out _ _ ⟨hX.out, hY.out, hQ.out⟩ (fun hHeld => ?_)
 clear hK K
 refine ow 9 ae.out (fun K hK => ?_)
 refine bJ (by rfl) rfl 62 (.tmp 7) (.tmp 219) rfl gU (dj b.addr b.aff (.slice As b.slots.length cs) (.slice Ap b.free.length cp) (.slice Am M.length cm)) rfl rfl 62 _ hU.out 5 (by kernel_rfl) rfl rfl (dM _ _ rfl rfl rfl) ?_
 intro V9 aa J; replace hB := gb hB fG J; replace hF := gr hF hU J; replace hG := gr hG hU J; replace hS := gr hS hU J; replace hP := gr hP hU J; replace hM := gr hM hU J; replace hX := gx hX hU J; replace hY := gn hY dw J; replace hT := gx hT hU J; replace hZ := gx hZ hU J; replace hC := gr hC hU J; replace hD := gr hD hU J; replace hQ := gx hQ hU J; replace hU := ak (aa); clear aa J
 refine hK.out _ _ ⟨hX.out, hY.out, hQ.out⟩ (fun hHeld => ?_)
 clear hK K
 refine pu 10 ae.out ?_
 refine dn ae.out ?_
 clear hHeld
 go_wp2_with fail
 refine bodyPost_ret (e6 rfl _ _ _ gZ gU 57 62 _ _ _ _ rfl hZ.out rfl Try.underlying57 (by first | exact HLB.out | exact HLN _ _ _ _) rfl hU.out rfl Try.underlying62 (by kernel_rfl)) rfl ⟨_, _, b, rfl, ?_, ?_, ?_, hB.out⟩
 ·exact HG.out
 ·exact ⟨HL.out, _, _, rfl, hF.out, hG.out⟩
 ·exact ⟨_, _, _, rfl, hS.out, hP.out, by rw [← HM.out]; exact hM.out⟩
end Go.Proofs.Ytemhalnhbgkbcaa.V
end

section
namespace Go.Proofs.Ytemhalnhbgkbcaa.V
set_option maxHeartbeats 16000000 in
set_option maxRecDepth 100000 in
theorem PF (b : Bk) (hg : RG b) (kd : Int) (hkd : kd = 2 ∨ kd = 3) (n : Int) (hn : n < 9223372036854775808) (a : ln) (eW : a.f0.size ≤ 9223372036854775807) (fA : a.f1.size ≤ 9223372036854775807) (l : List Int) (hu : ∀ x ∈ l, 0 ≤ x ∧ x < 4294967296) (hlm : l.length ≤ 9223372036854775807) (Al : Option Addr) (cl : Nat) (hcl : l.length ≤ cl) (aff : ByteArray) (hza : aff.size ≤ 9223372036854775807) (he : l = []) (v v2 : Value) (w : World) (base : Nat) (hbase : base ≤ w.heap.size) (hO : ey w base v b) (hR : eU w base v2 b) (hC : Kd.C (Kd.int .u32) w Al l.length l) :
  Calls Try.prog 47 #[v, v2, .agg #[.int .i64 kd, .int .i64 n, .string a.f0, .string a.f1, .slice Al l.length cl, .string aff]] w fun e w' => ∃ v1 v2 b', e = .returned (.tuple #[v1, v2, .bool true]) ∧ RG b' ∧ ey w' base v1 b' ∧ eU w' base v2 b' ∧ Below w.heap.size w w' := by
 obtain ⟨hl, vf, va, rfl, hf, ha⟩ := hO
 obtain ⟨vs, vp, vm, rfl, hs, hp, hm⟩ := hR
 obtain ⟨Af, cf, rfl⟩ := Kd.R_slice hf
 obtain ⟨Aa, ca, rfl⟩ := Kd.R_slice ha
 obtain ⟨As, cs, rfl⟩ := Kd.R_slice hs
 obtain ⟨Ap, cp, rfl⟩ := Kd.R_slice hp
 obtain ⟨M, hM⟩ : ∃ M, M = b.attrs.map vc := ⟨_, rfl⟩
 rw [← hM] at hm
 obtain ⟨Am, cm, rfl⟩ := Kd.R_slice hm
 have HL := ak hl
 have HM := ak hM
 have bw := ak hf
 have eh := ak ha
 have aV := ak hs
 have eo := ak hp
 have bS := ak hm
 have HG := ak hg
 have ag := ak (Below.refl w.heap.size w)
 have HBASE := ak hbase
 have HLB := ak (ch (aU b.addr b.aff b.slots (.slice Af b.free.length cf) (.slice Aa b.attrs.length ca)) (ah _ _ _ _ _ HL.out))
 obtain ⟨lt, hlt⟩ : ∃ lt, lt = l.take 80 := ⟨_, rfl⟩
 have hut : ∀ x ∈ lt, 0 ≤ x ∧ x < 4294967296 := fun x hx => hu x (by rw [hlt] at hx; exact List.mem_of_mem_take hx)
 have hll : lt.length = min 80 l.length := by rw [hlt, List.length_take]
 have HCL := ak hcl
 have HLL := ak hll
 have HC := ak hC
 have HCT := ak (fun W (I : Below w.heap.size w W) => (show Kd.C (Kd.int .u32) W Al lt.length lt by
  rcases Nat.lt_or_ge 80 l.length with h | h
  ·have h_ := Kd.C_take (m := 80) (Kd.C_below hC I) (by omega)
   rw [← hlt] at h_
   exact h_
  ·have h_ := Kd.C_below hC I
   have e : lt = l := by rw [hlt, List.take_of_length_le h]
   rw [e]
   exact h_))
 have q0 : (kd = 0) = False := eq_false (by omega)
 have r0 : decide (kd = 0) = false := decide_eq_false (by omega)
 have u0 : (kd == 0) = false := beq_eq_false_iff_ne.mpr (by omega)
 have q1 : (kd = 1) = False := eq_false (by omega)
 have r1 : decide (kd = 1) = false := decide_eq_false (by omega)
 have u1 : (kd == 1) = false := beq_eq_false_iff_ne.mpr (by omega)
 have HKD := ak hkd
 have l0 : lt.length = 0 := by rw [hll, he]; rfl
 have y0 : decide (0 < lt.length) = false := by rw [l0]; rfl
 have y1 : decide ((0 : Int) < (lt.length : Int)) = false := by rw [l0]; rfl
 have y2 : (0 < lt.length) = False := eq_false (by rw [l0]; simp)
 clear he hkd l0
 clear hl hM hf ha hs hp hm hbase hC hu hut hll hcl hlt hg
 go_enter Try.func47, Try.ntmps47
 go_upto_if 37 with (first
  | (refine aD rfl 57 (.tmp 0) rfl _ rfl ?_; intro gX W1 J aa I; have cg := ge ag J; have ao := ak (ag.out.trans (I.mono ag.out.size)); have bp := mv I bw; have dk := mv I eh; have bb := mv I aV; have dg := mv I eo; have bN := mv I bS; have aj := ak (aa); clear J aa I ag bw eh aV eo bS)
  | (refine aD rfl 62 (.tmp 1) rfl _ rfl ?_; intro gY W2 J aa I; have j8 := ge ao J; have gC := ne aj J; have ay := mv I ao; have bX := mv I bp; have dG := mv I dk; have bK := mv I bb; have di := mv I dg; have cC := mv I bN; have aw := mv I aj; have cA := ak (aa); clear J aa I ao bp dk bb dg bN aj)
  | (refine aD rfl 79 (.tmp 2) rfl _ rfl ?_; intro gT W3 J aa I; have kE := ge ay J; have ie := ne aw J; have iI := ne cA J; have aE := mv I ay; have cy := mv I bX; have dU := mv I dG; have b6 := mv I bK; have dS := mv I di; have da := mv I cC; have aC := mv I aw; have cB := mv I cA; have dN := ak (aa); clear J aa I ay bX dG bK di cC aw cA)
  | (refine au (some 6) rfl rfl 57 rfl a6 bT ?_; intro gZ W4 J aa I; have cb := ge aE J; have aG := ne aC J; have gP := ne cB J; have jS := ne dN J; have a8 := mv I aE; have cx := mv I cy; have dF := mv I dU; have cw := mv I b6; have eb := mv I dS; have cR := mv I da; have aY := mv I aC; have b5 := mv I cB; have dR := mv I dN; have bd := ak (aa); clear J aa I aE cy dU b6 dS da aC cB dN)
  | (refine au (some 7) rfl rfl 62 rfl dH (fun _ => by kernel_rfl) ?_; intro gU W5 J aa I; have fG := ge a8 J; have gR := ne aY J; have dw := ne b5 J; have jT := ne dR J; have gO := ne bd J; have bj := mv I a8; have cj := mv I cx; have cW := mv I dF; have cQ := mv I cw; have ek := mv I eb; have cH := mv I cR; have bc := mv I aY; have cY := mv I b5; have bB := mv I dR; have bI := mv I bd; have eV := ak (aa); have jP := bB.out.cell 0 _ rfl; have ic := bB.out.cell 1 _ rfl; have jO := bB.out.cell 2 _ rfl; have jN := bB.out.cell 3 _ rfl; have jM := bB.out.cell 4 _ rfl; have gN := bB.out.cell 5 _ rfl; clear J aa I a8 cx dF cw eb cR aY b5 dR bd))
 go_cut [9] from 38 to 39 (fun s9 wx => s9 = .slice Al lt.length cl ∧ W5 = wx)
 case first =>
  rcases Nat.lt_or_ge 80 l.length with lY | lY
  ·have lX : decide ((80 : Int) < (l.length : Int)) = true := by simp; omega
   have we : (((0 : Int) ≤ 80 ∧ (80 : Int) ≤ (cl : Int)) = True) := eq_true ⟨by omega, by have := HCL.out; omega⟩
   have wb : (((80 : Int) ≤ (cl : Int)) = True) := eq_true (by have := HCL.out; omega)
   go_wp2_with fail
   go_meet
   exact ⟨by rw [HLL.out, Nat.min_eq_left (by omega)], rfl⟩
  ·have lX : decide ((80 : Int) < (l.length : Int)) = false := by simp; omega
   go_wp2_with fail
   go_meet
   exact ⟨by rw [HLL.out, Nat.min_eq_right (by omega)], rfl⟩
 case rest =>
 obtain ⟨gy, gw⟩ := hcut
 subst gy
 subst gw
 go_upto_if 96 with fail
 go_cut [96] from 97 to 98 (fun vv wx => vv = .bool true ∧ W5 = wx)
 case first =>
  rcases HKD.out with dc | dc
  ·skip
   have Hu : (kd = 2) = True := eq_true (by omega)
   have OB : decide (kd = 2) = true := by simp; omega
   have Ov : (kd == 2) = true := by simp; omega
   clear dc
   go_wp2_with fail
   go_meet
   exact ⟨by first | rfl | simp [Hu], rfl⟩
  ·skip
   have Hu : (kd = 2) = False := eq_false (by omega)
   have OB : decide (kd = 2) = false := by simp; omega
   have Ov : (kd == 2) = false := by simp; omega
   have OE : (kd = 3) = True := eq_true (by omega)
   have WI : decide (kd = 3) = true := by simp; omega
   have WH : (kd == 3) = true := by simp; omega
   clear dc
   go_wp2_with fail
   go_meet
   exact ⟨by first | rfl | simp [OE], rfl⟩
 case rest =>
 obtain ⟨gy, gw⟩ := hcut
 subst gy
 subst gw
 go_wp2_with fail
 have al : Below W5.heap.size W5 W5.drew := br (Below.refl _ _)
 have bO := mv al bj; have cU := mv al cj; have dt := mv al cW; have cZ := mv al cQ; have er := mv al ek; have dE := mv al cH; have bl := mv al bc; have dh := mv al cY; have fy := mv al bB; have bW := mv al bI; have eg := mv al eV
 clear al bj cj cW cQ ek cH bc cY bB bI eV jP ic jO jN jM gN
 have hB := bO
 have hF := cU
 have hG := dt
 have hS := cZ
 have hP := er
 have hM := dE
 have hX := bl
 have hY := dh
 have hT := fy
 have hZ := bW
 have hU := eg
 clear bO cU dt cZ er dE bl dh fy bW eg
 refine dd (n := 5) (S := fun w' => aH w' gX (aU b.addr b.aff b.slots (.slice Af b.free.length cf) (.slice Aa b.attrs.length ca)) 57 ∧ aH w' gY (dj b.addr b.aff (.slice As b.slots.length cs) (.slice Ap b.free.length cp) (.slice Am M.length cm)) 62) (ds := []) #[false, false, false, false, false] (by kernel_rfl) rfl rfl ⟨hX.out, hY.out⟩ (fun hHeld => ?_); refine bQ mw.tab37 mw.bits37 (fun ae bA => ?_)
 refine tk 0 ae.out bA.out hHeld ?_ (hv := by exact fun _ aZ => aQ 57 (.tmp 3) rfl gX rfl _ _ _ aZ.1 Try.underlying57 rfl HLB.out)
 refine tk 1 ae.out bA.out hHeld ?_ (hv := by exact fun _ aZ => aQ 62 (.tmp 4) rfl gY rfl _ _ _ aZ.2 Try.underlying62 rfl (by kernel_rfl))
 refine ow 2 ae.out (fun K hK => ?_)
 refine bJ (by rfl) rfl 57 (.tmp 6) (.tmp 235) rfl gZ (aU b.addr b.aff b.slots (.slice Af b.free.length cf) (.slice Aa b.attrs.length ca)) rfl rfl 57 _ hZ.out 68 (by kernel_rfl) (ah _ _ _ _ _ HL.out) rfl (b7 _ _ _ _ _ rfl rfl) ?_
 intro V2 aa J; replace hB := gb hB cb J; replace hF := gr hF hZ J; replace hG := gr hG hZ J; replace hS := gr hS hZ J; replace hP := gr hP hZ J; replace hM := gr hM hZ J; replace hX := gn hX aG J; replace hY := gx hY hZ J; replace hT := gx hT hZ J; replace hU := gx hU hZ J; replace hZ := ak (aa); clear aa J
 refine hK.out _ _ ⟨hX.out, hY.out⟩ (fun hHeld => ?_)
 clear hK K
 refine ow 3 ae.out (fun K hK => ?_)
 refine bJ (by rfl) rfl 62 (.tmp 7) (.tmp 236) rfl gU (dj b.addr b.aff (.slice As b.slots.length cs) (.slice Ap b.free.length cp) (.slice Am M.length cm)) rfl rfl 62 _ hU.out 5 (by kernel_rfl) rfl rfl (dM _ _ rfl rfl rfl) ?_
 intro V3 aa J; replace hB := gb hB fG J; replace hF := gr hF hU J; replace hG := gr hG hU J; replace hS := gr hS hU J; replace hP := gr hP hU J; replace hM := gr hM hU J; replace hX := gx hX hU J; replace hY := gn hY dw J; replace hT := gx hT hU J; replace hZ := gx hZ hU J; replace hU := ak (aa); clear aa J
 refine hK.out _ _ ⟨hX.out, hY.out⟩ (fun hHeld => ?_)
 clear hK K
 refine pu 4 ae.out ?_
 refine dn ae.out ?_
 clear hHeld
 go_wp2_with fail
 refine bodyPost_ret (e6 rfl _ _ _ gZ gU 57 62 _ _ _ _ rfl hZ.out rfl Try.underlying57 (by first | exact HLB.out | exact HLN _ _ _ _) rfl hU.out rfl Try.underlying62 (by kernel_rfl)) rfl ⟨_, _, b, rfl, ?_, ?_, ?_, hB.out⟩
 ·exact HG.out
 ·exact ⟨HL.out, _, _, rfl, hF.out, hG.out⟩
 ·exact ⟨_, _, _, rfl, hS.out, hP.out, by rw [← HM.out]; exact hM.out⟩
set_option maxHeartbeats 16000000 in
set_option maxRecDepth 100000 in
theorem Rk (b : Bk) (hg : RG b) (kd : Int) (hkd : kd = 2 ∨ kd = 3) (n : Int) (hn : n < 9223372036854775808) (a : ln) (eW : a.f0.size ≤ 9223372036854775807) (fA : a.f1.size ≤ 9223372036854775807) (l : List Int) (hu : ∀ x ∈ l, 0 ≤ x ∧ x < 4294967296) (hlm : l.length ≤ 9223372036854775807) (Al : Option Addr) (cl : Nat) (hcl : l.length ≤ cl) (aff : ByteArray) (hza : aff.size ≤ 9223372036854775807) (he : 0 < l.length) (v v2 : Value) (w : World) (base : Nat) (hbase : base ≤ w.heap.size) (hO : ey w base v b) (hR : eU w base v2 b) (hC : Kd.C (Kd.int .u32) w Al l.length l) :
  Calls Try.prog 47 #[v, v2, .agg #[.int .i64 kd, .int .i64 n, .string a.f0, .string a.f1, .slice Al l.length cl, .string aff]] w fun e w' => ∃ v1 v2 b', e = .returned (.tuple #[v1, v2, .bool true]) ∧ RG b' ∧ ey w' base v1 b' ∧ eU w' base v2 b' ∧ Below w.heap.size w w' := by
 obtain ⟨hl, vf, va, rfl, hf, ha⟩ := hO
 obtain ⟨vs, vp, vm, rfl, hs, hp, hm⟩ := hR
 obtain ⟨Af, cf, rfl⟩ := Kd.R_slice hf
 obtain ⟨Aa, ca, rfl⟩ := Kd.R_slice ha
 obtain ⟨As, cs, rfl⟩ := Kd.R_slice hs
 obtain ⟨Ap, cp, rfl⟩ := Kd.R_slice hp
 obtain ⟨M, hM⟩ : ∃ M, M = b.attrs.map vc := ⟨_, rfl⟩
 rw [← hM] at hm
 obtain ⟨Am, cm, rfl⟩ := Kd.R_slice hm
 have HL := ak hl
 have HM := ak hM
 have bw := ak hf
 have eh := ak ha
 have aV := ak hs
 have eo := ak hp
 have bS := ak hm
 have HG := ak hg
 have ag := ak (Below.refl w.heap.size w)
 have HBASE := ak hbase
 have HLB := ak (ch (aU b.addr b.aff b.slots (.slice Af b.free.length cf) (.slice Aa b.attrs.length ca)) (ah _ _ _ _ _ HL.out))
 obtain ⟨lt, hlt⟩ : ∃ lt, lt = l.take 80 := ⟨_, rfl⟩
 have hut : ∀ x ∈ lt, 0 ≤ x ∧ x < 4294967296 := fun x hx => hu x (by rw [hlt] at hx; exact List.mem_of_mem_take hx)
 have hll : lt.length = min 80 l.length := by rw [hlt, List.length_take]
 have HCL := ak hcl
 have HLL := ak hll
 have HC := ak hC
 have HCT := ak (fun W (I : Below w.heap.size w W) => (show Kd.C (Kd.int .u32) W Al lt.length lt by
  rcases Nat.lt_or_ge 80 l.length with h | h
  ·have h_ := Kd.C_take (m := 80) (Kd.C_below hC I) (by omega)
   rw [← hlt] at h_
   exact h_
  ·have h_ := Kd.C_below hC I
   have e : lt = l := by rw [hlt, List.take_of_length_le h]
   rw [e]
   exact h_))
 have q0 : (kd = 0) = False := eq_false (by omega)
 have r0 : decide (kd = 0) = false := decide_eq_false (by omega)
 have u0 : (kd == 0) = false := beq_eq_false_iff_ne.mpr (by omega)
 have q1 : (kd = 1) = False := eq_false (by omega)
 have r1 : decide (kd = 1) = false := decide_eq_false (by omega)
 have u1 : (kd == 1) = false := beq_eq_false_iff_ne.mpr (by omega)
 have HKD := ak hkd
 have O9 : 0 < lt.length := by omega
 obtain ⟨x, hx⟩ : ∃ x, x = lt[0] := ⟨_, rfl⟩
 have ir := hut lt[0] (List.getElem_mem O9)
 rw [← hx] at ir
 obtain ⟨ad, hAl, hcx⟩ : ∃ ad, Al = some ad ∧ ∀ W, Below w.heap.size w W → W.cell? (ad.add 0) = some (.int .u32 x) := by
  obtain ⟨ad, eA, _⟩ := Kd.at_int (HCT.out w (Below.refl _ _)) 0 (by omega) (by omega)
  refine ⟨ad, eA, fun W hb => ?_⟩
  obtain ⟨XX, XU, hc⟩ := Kd.at_int (HCT.out W hb) 0 (by omega) (by omega)
  have : ad = XX := Option.some.inj (eA.symm.trans XU)
  subst this
  have h2 : rd lt 0 = x := by rw [hx]; simp [rd, List.getD, O9]
  rw [← h2]
  exact hc
 subst hAl
 have HCX := ak hcx
 have p1 : ((0 : Int) < (lt.length : Int)) = True := eq_true (by omega)
 have p2 : (0 < lt.length) = True := eq_true (by omega)
 have p3 : decide (0 < lt.length) = true := decide_eq_true (by omega)
 have HLA := ak (fun v v2 w h1 h2 h3 => E9 b hg x ir.1 ir.2 a eW fA v v2 w base h1 h2 h3)
 clear O9 hx ir hcx he hkd
 clear hl hM hf ha hs hp hm hbase hC hu hut hll hcl hlt hg
 go_enter Try.func47, Try.ntmps47
 go_upto_if 37 with (first
  | (refine aD rfl 57 (.tmp 0) rfl _ rfl ?_; intro gX W1 J aa I; have cg := ge ag J; have ao := ak (ag.out.trans (I.mono ag.out.size)); have bp := mv I bw; have dk := mv I eh; have bb := mv I aV; have dg := mv I eo; have bN := mv I bS; have aj := ak (aa); clear J aa I ag bw eh aV eo bS)
  | (refine aD rfl 62 (.tmp 1) rfl _ rfl ?_; intro gY W2 J aa I; have j8 := ge ao J; have gC := ne aj J; have ay := mv I ao; have bX := mv I bp; have dG := mv I dk; have bK := mv I bb; have di := mv I dg; have cC := mv I bN; have aw := mv I aj; have cA := ak (aa); clear J aa I ao bp dk bb dg bN aj)
  | (refine aD rfl 79 (.tmp 2) rfl _ rfl ?_; intro gT W3 J aa I; have kE := ge ay J; have ie := ne aw J; have iI := ne cA J; have aE := mv I ay; have cy := mv I bX; have dU := mv I dG; have b6 := mv I bK; have dS := mv I di; have da := mv I cC; have aC := mv I aw; have cB := mv I cA; have dN := ak (aa); clear J aa I ay bX dG bK di cC aw cA)
  | (refine au (some 6) rfl rfl 57 rfl a6 bT ?_; intro gZ W4 J aa I; have cb := ge aE J; have aG := ne aC J; have gP := ne cB J; have jS := ne dN J; have a8 := mv I aE; have cx := mv I cy; have dF := mv I dU; have cw := mv I b6; have eb := mv I dS; have cR := mv I da; have aY := mv I aC; have b5 := mv I cB; have dR := mv I dN; have bd := ak (aa); clear J aa I aE cy dU b6 dS da aC cB dN)
  | (refine au (some 7) rfl rfl 62 rfl dH (fun _ => by kernel_rfl) ?_; intro gU W5 J aa I; have fG := ge a8 J; have gR := ne aY J; have dw := ne b5 J; have jT := ne dR J; have gO := ne bd J; have bj := mv I a8; have cj := mv I cx; have cW := mv I dF; have cQ := mv I cw; have ek := mv I eb; have cH := mv I cR; have bc := mv I aY; have cY := mv I b5; have bB := mv I dR; have bI := mv I bd; have eV := ak (aa); have jP := bB.out.cell 0 _ rfl; have ic := bB.out.cell 1 _ rfl; have jO := bB.out.cell 2 _ rfl; have jN := bB.out.cell 3 _ rfl; have jM := bB.out.cell 4 _ rfl; have gN := bB.out.cell 5 _ rfl; clear J aa I a8 cx dF cw eb cR aY b5 dR bd))
 go_cut [9] from 38 to 39 (fun s9 wx => s9 = .slice (some ad) lt.length cl ∧ W5 = wx)
 case first =>
  rcases Nat.lt_or_ge 80 l.length with lY | lY
  ·have lX : decide ((80 : Int) < (l.length : Int)) = true := by simp; omega
   have we : (((0 : Int) ≤ 80 ∧ (80 : Int) ≤ (cl : Int)) = True) := eq_true ⟨by omega, by have := HCL.out; omega⟩
   have wb : (((80 : Int) ≤ (cl : Int)) = True) := eq_true (by have := HCL.out; omega)
   go_wp2_with fail
   go_meet
   exact ⟨by rw [HLL.out, Nat.min_eq_left (by omega)], rfl⟩
  ·have lX : decide ((80 : Int) < (l.length : Int)) = false := by simp; omega
   go_wp2_with fail
   go_meet
   exact ⟨by rw [HLL.out, Nat.min_eq_right (by omega)], rfl⟩
 case rest =>
 obtain ⟨gy, gw⟩ := hcut
 subst gy
 subst gw
 go_upto_if 96 with fail
 go_cut [96] from 97 to 98 (fun vv wx => vv = .bool true ∧ W5 = wx)
 case first =>
  rcases HKD.out with dc | dc
  ·skip
   have Hu : (kd = 2) = True := eq_true (by omega)
   have OB : decide (kd = 2) = true := by simp; omega
   have Ov : (kd == 2) = true := by simp; omega
   clear dc
   go_wp2_with fail
   go_meet
   exact ⟨by first | rfl | simp [Hu], rfl⟩
  ·skip
   have Hu : (kd = 2) = False := eq_false (by omega)
   have OB : decide (kd = 2) = false := by simp; omega
   have Ov : (kd == 2) = false := by simp; omega
   have OE : (kd = 3) = True := eq_true (by omega)
   have WI : decide (kd = 3) = true := by simp; omega
   have WH : (kd == 3) = true := by simp; omega
   clear dc
   go_wp2_with fail
   go_meet
   exact ⟨by first | rfl | simp [OE], rfl⟩
 case rest =>
 obtain ⟨gy, gw⟩ := hcut
 subst gy
 subst gw
 go_wp2_with fail
 have al : Below W5.heap.size W5 W5.drew := br (Below.refl _ _)
 have bO := mv al bj; have cU := mv al cj; have dt := mv al cW; have cZ := mv al cQ; have er := mv al ek; have dE := mv al cH; have bl := mv al bc; have dh := mv al cY; have fy := mv al bB; have bW := mv al bI; have eg := mv al eV
 clear al bj cj cW cQ ek cH bc cY bB bI eV jP ic jO jN jM gN
 have hB := bO
 have hF := cU
 have hG := dt
 have hS := cZ
 have hP := er
 have hM := dE
 have hX := bl
 have hY := dh
 have hT := fy
 have hZ := bW
 have hU := eg
 clear bO cU dt cZ er dE bl dh fy bW eg
 refine dd (n := 14) (S := fun w' => aH w' gX (aU b.addr b.aff b.slots (.slice Af b.free.length cf) (.slice Aa b.attrs.length ca)) 57 ∧ aH w' gY (dj b.addr b.aff (.slice As b.slots.length cs) (.slice Ap b.free.length cp) (.slice Am M.length cm)) 62 ∧ aH w' gT [.int .i64 kd, .int .i64 n, .string a.f0, .string a.f1, .slice (some ad) l.length cl, .string aff] 79 ∧ Below w.heap.size w w') (ds := []) #[false, false, false, false, false, false, false, false, false, false, false, false, false, false] (by kernel_rfl) rfl rfl ⟨hX.out, hY.out, hT.out, hB.out⟩ (fun hHeld => ?_); refine bQ sN.tab15 sN.bits15 (fun ae bA => ?_)
 refine tk 0 ae.out bA.out hHeld ?_ (hv := by exact fun _ aZ => aQ 57 (.tmp 3) rfl gX rfl _ _ _ aZ.1 Try.underlying57 rfl HLB.out)
 refine tk 1 ae.out bA.out hHeld ?_ (hv := by exact fun _ aZ => aQ 62 (.tmp 4) rfl gY rfl _ _ _ aZ.2.1 Try.underlying62 rfl (by kernel_rfl))
 refine pu 2 ae.out ?_
 refine pu 3 ae.out ?_
 refine tk 4 ae.out bA.out hHeld ?_ (hv := by intro w' aZ; have Pv := HCX.out w' aZ.2.2.2; have Zo : w'.cell? ad = some (.int .u32 x) := Pv; go_simp; with_reducible rfl)
 refine pu 5 ae.out ?_
 refine tk 6 ae.out bA.out hHeld ?_ (hv := by exact fun _ aZ => oN 76 (.tmp 107) rfl gT 2 rfl _ _ [.string a.f0, .string a.f1] _ aZ.2.2.1 wL Try.underlying76 rfl (by kernel_rfl))
 refine on 7 ae.out (fun K hK => ?_)
 refine gs Try.func83 #[.agg (aU b.addr b.aff b.slots (.slice Af b.free.length cf) (.slice Aa b.attrs.length ca)).toArray, .agg (dj b.addr b.aff (.slice As b.slots.length cs) (.slice Ap b.free.length cp) (.slice Am M.length cm)).toArray, .int .u32 x, .agg #[.string a.f0, .string a.f1]] (HLA.out _ _ _ (lb HBASE hB) ⟨HL.out, _, _, rfl, hF.out, hG.out⟩ ⟨_, _, _, rfl, hS.out, hP.out, by rw [← HM.out]; exact hM.out⟩) ?_
 rintro e V7 ⟨v8, v9, nb, rfl, hrg, aW, eG, I⟩
 refine ⟨_, rfl, ?_⟩
 replace hB := mv I hB; replace hF := mv I hF; replace hG := mv I hG; replace hS := mv I hS; replace hP := mv I hP; replace hM := mv I hM; replace hX := mv I hX; replace hY := mv I hY; replace hT := mv I hT; replace hZ := mv I hZ; replace hU := mv I hU; have HRG := ak hrg; have HNL := ak hrg.l64; obtain ⟨kS, sw, sy, rfl, dQ, eE⟩ := aW; obtain ⟨A8, c8, rfl⟩ := Kd.R_slice dQ; obtain ⟨A9, c9, rfl⟩ := Kd.R_slice eE; obtain ⟨wz, sx, sA, rfl, gz, fp, eH⟩ := eG; obtain ⟨A1, c1, rfl⟩ := Kd.R_slice gz; obtain ⟨A2, c2, rfl⟩ := Kd.R_slice fp; obtain ⟨NM, hNM⟩ : ∃ NM, NM = nb.attrs.map vc := ⟨_, rfl⟩; rw [← hNM] at eH; have HNM := ak hNM; obtain ⟨A3, c3, rfl⟩ := Kd.R_slice eH; have hC := ak dQ; have hD := ak eE; have hI := ak gz; have hJ := ak fp; have hE := ak eH; clear hrg kS dQ eE hNM gz fp eH I
 refine kn hK ⟨hX.out, hY.out, hT.out, hB.out⟩ (fun hHeld => ?_)
 clear hK K
 refine pu 8 ae.out ?_
 refine pu 9 ae.out ?_
 refine pu 10 ae.out ?_
 refine ow 11 ae.out (fun K hK => ?_)
 refine bJ (by rfl) rfl 57 (.tmp 6) (.tmp 110) rfl gZ (aU nb.addr nb.aff nb.slots (.slice A8 nb.free.length c8) (.slice A9 nb.attrs.length c9)) rfl rfl 57 _ hZ.out 68 (by kernel_rfl) (ah _ _ _ _ _ HNL.out) rfl (b7 _ _ _ _ _ rfl rfl) ?_
 intro qx aa J; replace hB := gb hB cb J; replace hF := gr hF hZ J; replace hG := gr hG hZ J; replace hS := gr hS hZ J; replace hP := gr hP hZ J; replace hM := gr hM hZ J; replace hX := gn hX aG J; replace hY := gx hY hZ J; replace hT := gx hT hZ J; replace hU := gx hU hZ J; replace hC := gr hC hZ J; replace hD := gr hD hZ J; replace hI := gr hI hZ J; replace hJ := gr hJ hZ J; replace hE := gr hE hZ J; replace hZ := ak (aa); clear aa J
 refine hK.out _ _ ⟨hX.out, hY.out, hT.out, hB.out⟩ (fun hHeld => ?_)
 clear hK K
 refine ow 12 ae.out (fun K hK => ?_)
 refine bJ (by rfl) rfl 62 (.tmp 7) (.tmp 111) rfl gU (dj nb.addr nb.aff (.slice A1 nb.slots.length c1) (.slice A2 nb.free.length c2) (.slice A3 NM.length c3)) rfl rfl 62 _ hU.out 5 (by kernel_rfl) rfl rfl (dM _ _ rfl rfl rfl) ?_
 intro PY aa J; replace hB := gb hB fG J; replace hF := gr hF hU J; replace hG := gr hG hU J; replace hS := gr hS hU J; replace hP := gr hP hU J; replace hM := gr hM hU J; replace hX := gx hX hU J; replace hY := gn hY dw J; replace hT := gx hT hU J; replace hZ := gx hZ hU J; replace hC := gr hC hU J; replace hD := gr hD hU J; replace hI := gr hI hU J; replace hJ := gr hJ hU J; replace hE := gr hE hU J; replace hU := ak (aa); clear aa J
 refine hK.out _ _ ⟨hX.out, hY.out, hT.out, hB.out⟩ (fun hHeld => ?_)
 clear hK K
 refine pu 13 ae.out ?_
 refine dn ae.out ?_
 clear hHeld
 have HLN := fun A8 c8 A9 c9 => ch (aU nb.addr nb.aff nb.slots (.slice A8 nb.free.length c8) (.slice A9 nb.attrs.length c9)) (ah _ _ _ _ _ HNL.out)
 go_wp2_with fail
 refine bodyPost_ret (e6 rfl _ _ _ gZ gU 57 62 _ _ _ _ rfl hZ.out rfl Try.underlying57 (by first | exact HLB.out | exact HLN _ _ _ _) rfl hU.out rfl Try.underlying62 (by kernel_rfl)) rfl ⟨_, _, nb, rfl, ?_, ?_, ?_, hB.out⟩
 ·exact HRG.out
 ·exact ⟨HNL.out, _, _, rfl, hC.out, hD.out⟩
 ·exact ⟨_, _, _, rfl, hI.out, hJ.out, by rw [← HNM.out]; exact hE.out⟩
end Go.Proofs.Ytemhalnhbgkbcaa.V
end

