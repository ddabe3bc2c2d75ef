/- The law ImagePlays for every input: texts of ours, put together (part 16 of 17). No further condition. -/
import Derived.Test.YtemhalnhbgkbcaaCImagePlaysx2
import Derived.Test.YtemhalnhbgkbcaaCImagePlaysx6
import Derived.Test.YtemhalnhbgkbcaaCImagePlaysx14
import Derived.Test.YtemhalnhbgkbcaaCImagePlaysx7
import Derived.Test.YtemhalnhbgkbcaaCImagePlaysx9
import Derived.Outline
set_option linter.unusedVariables false
set_option linter.unusedSimpArgs false
open Go.RowKit Go.Proofs.YtemhalnhbgkbcaaW.PrintWords Go.Proofs.YtemhalnhbgkbcaaW.PrintLast Go.Proofs.YtemhalnhbgkbcaaW.PrintMore Go.Proofs.Ytemhalnhbgkbcaa.Z
section
namespace Go.Proofs.Ytemhalnhbgkbcaa.V
set_option maxHeartbeats 16000000 in
set_option maxRecDepth 100000 in
theorem Bb (a0 : Int) (h0 : 0 ≤ a0) (h1 : a0 < 4294967296) (vl : Value) (l : List St) (w : World) (hst : StepsIs w vl l) :
  Calls Try.prog 14 #[.int .u32 a0, vl] w fun e w' => e = .returned (.bool true) ∧ Below w.heap.size w w' := by
 obtain ⟨aff, haff⟩ : ∃ aff : ByteArray, aff = ⟨#[]⟩ := ⟨_, rfl⟩
 have hon : fS aff = true := by rw [haff]; kernel_rfl
 obtain ⟨hlm, hok, A, c, rfl, hlc, hat⟩ := hst
 obtain ⟨b, hb⟩ : ∃ b, b = qQ a0 aff := ⟨_, rfl⟩
 have hg : RG b := by rw [hb]; exact RG.new a0 h0 h1 aff hon
 have ov := fun w => Fz a0 h0 h1 aff w
 rw [hon] at ov
 simp only [if_true] at ov
 have FE := fun w => JG a0 h0 h1 aff w
 rw [← hb] at ov FE
 obtain ⟨M, hM⟩ : ∃ M, M = b.attrs.map vc := ⟨_, rfl⟩
 have HL := ak hg.l64
 have HM := ak hM
 have HG := ak hg
 have EB := ak ov
 have zI := ak FE
 have HLB := fun Af cf Aa ca => ak (ch (aU b.addr b.aff b.slots (.slice Af b.free.length cf) (.slice Aa b.attrs.length ca)) (ah _ _ _ _ _ HL.out))
 have ag := ak (Below.refl w.heap.size w)
 have HLM := ak hlm
 have HLC := ak hlc
 have HAT := ak hat
 have HOK := ak hok
 rw [haff] at EB zI
 clear hlm hlc hat hok hb hg ov FE hM h0 h1 hon haff
 go_enter Try.func14, Try.ntmps14
 go_wp2_with (first
  | (go_at_call 41; refine (EB.out _).mono ?_; rintro e W1 ⟨v_, rfl, aW, I⟩; obtain ⟨kS, sw, sy, rfl, dQ, eE⟩ := aW; obtain ⟨Af, cf, rfl⟩ := Kd.R_slice dQ; obtain ⟨Aa, ca, rfl⟩ := Kd.R_slice eE; have ao := ak (ag.out.trans (I.mono ag.out.size)); have bp := ak (Kd.R_lower dQ ag.out.size); have dk := ak (Kd.R_lower eE ag.out.size); clear kS dQ eE I ag)
  | (refine au (some 5) rfl rfl 57 rfl a6 bT ?_; intro gX W2 J aa I; have cg := ge ao J; have ay := mv I ao; have bX := mv I bp; have dG := mv I dk; have aw := ak (aa); clear J aa I ao bp dk)
  | (refine aK rfl 57 (.tmp 5) (.tmp 17) rfl gX (aU b.addr b.aff b.slots (.slice Af b.free.length cf) (.slice Aa b.attrs.length ca)) rfl rfl 57 _ aw.out 68 (by kernel_rfl) (ah _ _ _ _ _ HL.out) rfl (b7 _ _ _ _ _ rfl rfl) ?_; intro W3 aa J; have aE := gb ay cg J; have cy := gr bX aw J; have dU := gr dG aw J; have aC := ak (aa); clear aa J ay bX dG aw)
  | (go_at_call 45; refine (zI.out _).mono ?_; rintro e W4 ⟨v9, rfl, eG, I⟩; obtain ⟨wz, sx, sA, rfl, gz, fp, eH⟩ := eG; obtain ⟨As, cs, rfl⟩ := Kd.R_slice gz; obtain ⟨Ap, cp, rfl⟩ := Kd.R_slice fp; rw [← HM.out] at eH; obtain ⟨Am, cm, rfl⟩ := Kd.R_slice eH; have a8 := mv I aE; have cx := mv I cy; have dF := mv I dU; have aY := mv I aC; have cw := ak (Kd.R_lower gz aE.out.size); have eb := ak (Kd.R_lower fp aE.out.size); have cR := ak (Kd.R_lower eH aE.out.size); clear gz fp eH I aE cy dU aC)
  | (refine au (some 7) rfl rfl 62 rfl dH (fun _ => by kernel_rfl) ?_; intro gY W5 J aa I; have j8 := ge a8 J; have gC := ne aY J; have bj := mv I a8; have cj := mv I cx; have cW := mv I dF; have bc := mv I aY; have cQ := mv I cw; have ek := mv I eb; have cH := mv I cR; have cY := ak (aa); clear J aa I a8 cx dF aY cw eb cR)
  | (refine aK rfl 62 (.tmp 7) (.tmp 20) rfl gY (dj b.addr b.aff (.slice As b.slots.length cs) (.slice Ap b.free.length cp) (.slice Am M.length cm)) rfl rfl 62 _ cY.out 5 (by kernel_rfl) rfl rfl (dM _ _ rfl rfl rfl) ?_; intro W6 aa J; have bO := gb bj j8 J; have cU := gr cj cY J; have dt := gr cW cY J; have bl := gx bc cY J; have cZ := gr cQ cY J; have er := gr ek cY J; have dE := gr cH cY J; have dh := ak (aa); clear aa J bj cj cW bc cQ ek cH cY))
 go_loopw [8, 9, 23] (fun _ _ i W => ∃ (k : Nat) (b : Bk), k ≤ l.length ∧ i = .int .i64 k ∧ Aside0 (RG b) ∧ Aside0 (OC W w.heap.size gX b) ∧ Aside0 (RX W w.heap.size gY b) ∧ Aside0 (Below w.heap.size w W)) (fun _ _ i _ => l.length - (intOf i).toNat)
 case atStart => exact ⟨0, b, by omega, rfl, HG, ⟨⟨HL.out, _, _, bl.out, cU.out, dt.out⟩⟩, ⟨⟨M, _, _, _, HM.out, dh.out, cZ.out, er.out, dE.out⟩⟩, bO⟩
 case round =>
  clear bO cU dt bl cZ er dE dh HL HM HG EB zI HLB
  obtain ⟨k, b, hk, rfl, HG, HO, HR, ag⟩ := hrel
  obtain ⟨W, rfl⟩ : ∃ W : World, W = wr := ⟨_, rfl⟩
  obtain ⟨Af, cf, Aa, ca, hx, hf, ha⟩ := HO.out.open
  have O7 := HO.out.l64
  obtain ⟨M, As, cs, Ap, cp, Am, cm, hm, hy, hs, hp, hmm⟩ := HR.out.open
  have HL := ak O7
  have HM := ak hm
  have aM := ak hx
  have bw := ak hf
  have eh := ak ha
  have iV := ak hy
  have aV := ak hs
  have eo := ak hp
  have bS := ak hmm
  clear HO HR O7 hm hx hf ha hy hs hp hmm
  by_cases hkl : k < l.length
  ·skip
   obtain ⟨s, hs⟩ : ∃ s, s = l.getD k K3 := ⟨_, rfl⟩
   have hsm : s ∈ l := by rw [hs, show l.getD k K3 = l[k] by simp [List.getD, hkl]]; exact List.getElem_mem hkl
   have hso := HOK.out s hsm
   have HSO := ak hso
   obtain ⟨ad, hA, hc⟩ := HAT.out k hkl
   subst hA
   rw [← hs] at hc
   have hbw := ag.out
   have mg := (hbw.cell (World.block_lt_of_cell? w _ (hc 0 _ rfl))).trans (hc 0 _ rfl)
   have sf := (hbw.cell (World.block_lt_of_cell? w _ (hc 1 _ rfl))).trans (hc 1 _ rfl)
   have kr := (hbw.cell (World.block_lt_of_cell? w _ (hc 2 _ rfl))).trans (hc 2 _ rfl)
   have pS := (hbw.cell (World.block_lt_of_cell? w _ (hc 3 _ rfl))).trans (hc 3 _ rfl)
   have oR := (hbw.cell (World.block_lt_of_cell? w _ (hc 4 _ rfl))).trans (hc 4 _ rfl)
   have Ka := (hbw.cell (World.block_lt_of_cell? w _ (hc 5 _ rfl))).trans (hc 5 _ rfl)
   rw [Nat.add_zero] at mg
   rw [mS _ _ 1 (by omega)] at sf
   rw [mS _ _ 2 (by omega)] at kr
   rw [mS _ _ 3 (by omega)] at pS
   rw [mS _ _ 4 (by omega)] at oR
   rw [mS _ _ 5 (by omega)] at Ka
   have p0 : decide ((k : Int) < (l.length : Int)) = true := by simp; omega
   have p1 : ((k : Int) < (l.length : Int)) = True := eq_true (by omega)
   have p2 : ((0 : Int) ≤ (k : Int)) = True := eq_true (by omega)
   have p3 : (k < l.length) = True := eq_true hkl
   have HKL := ak hkl
   clear hs hsm hso hc hbw hkl
   have HLB := ak (ch (aU b.addr b.aff b.slots (.slice Af b.free.length cf) (.slice Aa b.attrs.length ca)) (ah _ _ _ _ _ HL.out))
   by_cases Zq : k < 12
   ·have u0 : decide ((k : Int) < 12) = true := by simp; omega
    have u1 : ((k : Int) < 12) = True := eq_true (by omega)
    go_wp2_with (first
     | (refine au (some 9) rfl rfl 79 rfl [.int .i64 0, .int .i64 0, .string ⟨#[]⟩, .string ⟨#[]⟩, .slice none 0 0, .string ⟨#[]⟩] (fun _ => by kernel_rfl) ?_; intro gT W1 J aa I; have kE := ge ag J; have ie := ne aM J; have iI := ne iV J; have ao := ak (ag.out.trans (I.mono ag.out.size)); have bp := mv I bw; have dk := mv I eh; have bb := mv I aV; have dg := mv I eo; have bN := mv I bS; have aj := mv I aM; have j4 := mv I iV; have iL := ak (aa); clear J aa I ag bw eh aV eo bS aM iV mg sf kr pS oR Ka)
     | (refine aK rfl 79 (.tmp 9) (.tmp 27) rfl gT [.int .i64 s.kd, .int .i64 s.n, .string s.a.f0, .string s.a.f1, .slice s.A s.l.length s.c, .string s.aff] rfl rfl 79 _ iL.out 6 (by kernel_rfl) rfl rfl (fun u_ rZ => by simp only [List.mem_cons, List.not_mem_nil, or_false] at rZ; rcases rZ with rfl | rfl | rfl | rfl | rfl | rfl <;> rfl) ?_; intro W2 aa J; have ay := gb ao kE J; have bX := gr bp iL J; have dG := gr dk iL J; have bK := gr bb iL J; have di := gr dg iL J; have cC := gr bN iL J; have aw := gx aj iL J; have cA := gx j4 iL J; have uq := ak (aa); clear aa J ao bp dk bb dg bN aj j4 iL)
     | ((with_reducible refine av (N := 31) rfl ?_); refine az rfl 57 (.tmp 5) rfl gX rfl _ _ _ aw.out Try.underlying57 rfl 68 (by kernel_rfl) (ah _ _ _ _ _ HL.out) ?_)
     | ((with_reducible refine av (N := 32) rfl ?_); refine az rfl 62 (.tmp 7) rfl gY rfl _ _ _ cA.out Try.underlying62 rfl 5 (by kernel_rfl) rfl ?_)
     | ((with_reducible refine av (N := 33) rfl ?_); refine az rfl 79 (.tmp 9) rfl gT rfl _ _ _ uq.out Try.underlying79 rfl 6 (by kernel_rfl) rfl ?_)
     | (go_at_call 47; refine (PH b HG.out s.kd s.n HSO.out.n s.a HSO.out.z0 HSO.out.z1 s.l HSO.out.u HSO.out.lm s.A s.c HSO.out.lc s.aff HSO.out.za _ _ _ w.heap.size ay.out.size ⟨HL.out, _, _, rfl, bX.out, dG.out⟩ ⟨_, _, _, rfl, bK.out, di.out, by rw [← HM.out]; exact cC.out⟩ (Kd.C_below HSO.out.r ay.out)).mono ?_; rintro e W3 ⟨v_, v9, nb, rfl, hrg, aW, eG, I⟩; have HRG := ak hrg; have HNL := ak hrg.l64; obtain ⟨kS, sw, sy, rfl, dQ, eE⟩ := aW; obtain ⟨A8, c8, rfl⟩ := Kd.R_slice dQ; obtain ⟨A9, c9, rfl⟩ := Kd.R_slice eE; obtain ⟨wz, sx, sA, rfl, gz, fp, eH⟩ := eG; obtain ⟨A1, c1, rfl⟩ := Kd.R_slice gz; obtain ⟨A2, c2, rfl⟩ := Kd.R_slice fp; obtain ⟨NM, hNM⟩ : ∃ NM, NM = nb.attrs.map vc := ⟨_, rfl⟩; rw [← hNM] at eH; have HNM := ak hNM; obtain ⟨A3, c3, rfl⟩ := Kd.R_slice eH; have aE := mv I ay; have cy := mv I bX; have dU := mv I dG; have b6 := mv I bK; have dS := mv I di; have da := mv I cC; have aC := mv I aw; have cB := mv I cA; have dN := mv I uq; have QN := ak (dQ); have xf := ak (eE); have xe := ak (gz); have QF := ak (fp); have QK := ak (eH); clear hrg kS dQ eE hNM gz fp eH I ay bX dG bK di cC aw cA uq)
     | (refine aK rfl 57 (.tmp 5) (.tmp 35) rfl gX (aU nb.addr nb.aff nb.slots (.slice A8 nb.free.length c8) (.slice A9 nb.attrs.length c9)) rfl rfl 57 _ aC.out 68 (by kernel_rfl) (ah _ _ _ _ _ HNL.out) (ah _ _ _ _ _ HL.out) (b7 _ _ _ _ _ rfl rfl) ?_; intro W4 aa J; have a8 := gb aE cg J; have cx := gr cy aC J; have dF := gr dU aC J; have cw := gr b6 aC J; have eb := gr dS aC J; have cR := gr da aC J; have aY := ak (aa); have b5 := gx cB aC J; have dR := gx dN aC J; have QM := gr QN aC J; have QL := gr xf aC J; have xd := gr xe aC J; have QE := gr QF aC J; have QJ := gr QK aC J; clear aa J aE cy dU b6 dS da aC cB dN QN xf xe QF QK)
     | (refine aK rfl 62 (.tmp 7) (.tmp 36) rfl gY (dj nb.addr nb.aff (.slice A1 nb.slots.length c1) (.slice A2 nb.free.length c2) (.slice A3 NM.length c3)) rfl rfl 62 _ b5.out 5 (by kernel_rfl) rfl rfl (dM _ _ rfl rfl rfl) ?_; intro W5 aa J; have bj := gb a8 j8 J; have cj := gr cx b5 J; have cW := gr dF b5 J; have cQ := gr cw b5 J; have ek := gr eb b5 J; have cH := gr cR b5 J; have bc := gx aY b5 J; have cY := ak (aa); have bB := gx dR b5 J; have Uj := gr QM b5 J; have Ui := gr QL b5 J; have j6 := gr xd b5 J; have Uf := gr QE b5 J; have Uh := gr QJ b5 J; clear aa J a8 cx dF cw eb cR aY b5 dR QM QL xd QE QJ))
    go_roundw
    case rel => exact ⟨k + 1, nb, by have := HKL.out; omega, by (first | rfl | (simp only [intOf]; congr 1; omega) | skip), HRG, ⟨⟨HNL.out, _, _, bc.out, Uj.out, Ui.out⟩⟩, ⟨⟨NM, _, _, _, HNM.out, cY.out, j6.out, Uf.out, Uh.out⟩⟩, bj⟩
    case measure => have := HKL.out; simp [intOf]; omega
   ·have u0 : decide ((k : Int) < 12) = false := by simp; omega
    have u1 : ((k : Int) < 12) = False := eq_false (by omega)
    have hwr := ak (show wrap64 ((k : Int) + 1) = ((k + 1 : Nat) : Int) by have := HKL.out; have := HLM.out; rw [ik _ (by omega) (by omega)]; omega)
    go_wp2_with (first
     | (refine au (some 9) rfl rfl 79 rfl [.int .i64 0, .int .i64 0, .string ⟨#[]⟩, .string ⟨#[]⟩, .slice none 0 0, .string ⟨#[]⟩] (fun _ => by kernel_rfl) ?_; intro gT W1 J aa I; have kE := ge ag J; have ie := ne aM J; have iI := ne iV J; have ao := ak (ag.out.trans (I.mono ag.out.size)); have bp := mv I bw; have dk := mv I eh; have bb := mv I aV; have dg := mv I eo; have bN := mv I bS; have aj := mv I aM; have j4 := mv I iV; have iL := ak (aa); clear J aa I ag bw eh aV eo bS aM iV mg sf kr pS oR Ka)
     | (refine aK rfl 79 (.tmp 9) (.tmp 27) rfl gT [.int .i64 s.kd, .int .i64 s.n, .string s.a.f0, .string s.a.f1, .slice s.A s.l.length s.c, .string s.aff] rfl rfl 79 _ iL.out 6 (by kernel_rfl) rfl rfl (fun u_ rZ => by simp only [List.mem_cons, List.not_mem_nil, or_false] at rZ; rcases rZ with rfl | rfl | rfl | rfl | rfl | rfl <;> rfl) ?_; intro W2 aa J; have ay := gb ao kE J; have bX := gr bp iL J; have dG := gr dk iL J; have bK := gr bb iL J; have di := gr dg iL J; have cC := gr bN iL J; have aw := gx aj iL J; have cA := gx j4 iL J; have uq := ak (aa); clear aa J ao bp dk bb dg bN aj j4 iL))
    go_roundw
    case rel => exact ⟨k + 1, b, by have := HKL.out; omega, by rw [hwr.out], HG, ⟨⟨HL.out, _, _, aw.out, bX.out, dG.out⟩⟩, ⟨⟨M, _, _, _, HM.out, cA.out, bK.out, di.out, cC.out⟩⟩, ay⟩
    case measure => have h_ := HKL.out; rw [hwr.out]; simp [intOf]; omega
  ·have p0 : decide ((k : Int) < (l.length : Int)) = false := by simp; omega
   have p1 : ((k : Int) < (l.length : Int)) = False := eq_false (by omega)
   have p3 : (k < l.length) = False := eq_false hkl
   clear hkl
   have hok := HG.out.ok
   have hrt := HG.out.right
   have hp := im hrt
   obtain ⟨SI, SH⟩ := JX hok hp hrt HL.out
   have hpu := Dg b hok
   rw [hrt] at hpu
   simp only [if_true] at hpu
   have hfit := (JY hp hok HL.out).2
   have hst := strOfNums_size (gW b)
   rw [← hst] at hfit
   have hrd := fun w => JJ (strOfNums (gW b)) (by omega) w
   rw [SI, SH] at hrd
   simp only [if_true] at hrd
   have HPT := ak (Oy b hok hp HL.out (strOfNums (gW b)) rfl M HM.out)
   have HSM := ak (CR b (by have := HG.out.sum; omega) (by have := HG.out.sum; omega))
   generalize strOfNums (gW b) = z at hpu hrd HPT hfit
   have HPU := ak hpu
   have HRD := ak hrd
   clear hok hrt hp SI SH hpu hst hrd hfit
   go_wp2_with (first
    | ((with_reducible refine av (N := 40) rfl ?_); refine az rfl 57 (.tmp 5) rfl gX rfl _ _ _ aM.out Try.underlying57 rfl 68 (by kernel_rfl) (ah _ _ _ _ _ HL.out) ?_)
    | (go_at_call 32; refine (HPU.out _ _ ⟨_, _, _, _, rfl, ⟨HL.out, (rr bw).1, (rr bw).2, (rr eh).1, (rr eh).2⟩⟩).mono ?_; rintro e W1 ⟨rfl, I⟩; have ao := ak (ag.out.trans (I.mono ag.out.size)); have bp := mv I bw; have dk := mv I eh; have bb := mv I aV; have dg := mv I eo; have bN := mv I bS; have aj := mv I aM; have j4 := mv I iV; clear I ag bw eh aV eo bS aM iV)
    | (go_at_call 38; refine (HRD.out _).mono ?_; rintro e W2 ⟨v8, rfl, WT, I⟩; obtain ⟨A8, c8, A9, c9, rfl, SP⟩ := WT; have Tf := ak SP; clear SP; have ay := mv I ao; have bX := mv I bp; have dG := mv I dk; have bK := mv I bb; have di := mv I dg; have cC := mv I bN; have aw := mv I aj; have cA := mv I j4; clear I ao bp dk bb dg bN aj j4)
    | (refine au (some 12) rfl rfl 57 rfl a6 bT ?_; intro gV W3 J aa I; have db := ge ay J; have fx := ne aw J; have eN := ne cA J; have aE := mv I ay; have cy := mv I bX; have dU := mv I dG; have b6 := mv I bK; have dS := mv I di; have da := mv I cC; have aC := mv I aw; have cB := mv I cA; have kF := ak (aa); have HBV := ak I; have HGV := ak J; clear J aa I ay bX dG bK di cC aw cA)
    | (refine aK rfl 57 (.tmp 12) (.tmp 47) rfl gV (aU b.addr b.aff b.slots (.slice A8 b.free.length c8) (.slice A9 b.attrs.length c9)) rfl rfl 57 _ kF.out 68 (by kernel_rfl) (ah _ _ _ _ _ HL.out) rfl (b7 _ _ _ _ _ rfl rfl) ?_; intro W4 aa J; have Ph : Below W2.heap.size W2 W4 := HBV.out.grown J HBV.out.size (by intro k hk; cases hk; exact HGV.out); have Qq := ak (Tf.out.below Ph); clear Ph HBV HGV Tf; have a8 := gb aE db J; have cx := gr cy kF J; have dF := gr dU kF J; have cw := gr b6 kF J; have eb := gr dS kF J; have cR := gr da kF J; have aY := gn aC fx J; have b5 := gx cB kF J; have Qh := ak (aa); clear aa J aE cy dU b6 dS da aC cB kF)
    | ((with_reducible refine av (N := 57) rfl ?_); refine eK (by rfl) ?_; refine az rfl 62 (.tmp 7) rfl gY rfl _ _ _ b5.out Try.underlying62 rfl 5 (by kernel_rfl) rfl ?_)
    | (go_at_call 39; refine (HPT.out As Ap Am cs cp cm _ ⟨(rr cw).1, (rr cw).2⟩ ⟨(rr eb).1, (rr eb).2⟩ ⟨(rr cR).1, (rr cR).2⟩).mono ?_; rintro e W5 ⟨rfl, I⟩; have bj := mv I a8; have cj := mv I cx; have cW := mv I dF; have cQ := mv I cw; have ek := mv I eb; have cH := mv I cR; have bc := mv I aY; have cY := mv I b5; have KJ := mv I Qh; have G6 := mv I Qq; clear I a8 cx dF cw eb cR aY b5 Qh Qq)
    | ((with_reducible refine av (N := 62) rfl ?_); refine eK (by rfl) ?_; refine az rfl 57 (.tmp 5) rfl gX rfl _ _ _ bc.out Try.underlying57 rfl 68 (by kernel_rfl) (ah _ _ _ _ _ HL.out) ?_)
    | ((with_reducible refine av (N := 63) rfl ?_); refine eK (by rfl) ?_; refine az rfl 57 (.tmp 12) rfl gV rfl _ _ _ KJ.out Try.underlying57 rfl 68 (by kernel_rfl) (ah _ _ _ _ _ HL.out) ?_)
    | (go_at_call 40; refine (HSM.out _ _ _ ⟨_, _, _, _, rfl, ⟨HL.out, (rr cj).1, (rr cj).2, (rr cW).1, (rr cW).2⟩⟩ (iz.R G6.out)).mono ?_; rintro e W6 ⟨rfl, I⟩; have bO := mv I bj; have cU := mv I cj; have dt := mv I cW; have cZ := mv I cQ; have er := mv I ek; have dE := mv I cH; have bl := mv I bc; have dh := mv I cY; have Qg := mv I KJ; have LD := mv I G6; clear I bj cj cW cQ ek cH bc cY KJ G6)
    | (go_at_call 34; refine (Fh _).mono ?_; rintro e W7 ⟨rfl, I⟩; have ew := mv I bO; have fu := mv I cU; have j7 := mv I dt; have gE := mv I cZ; have n8 := mv I er; have ky := mv I dE; have dI := mv I bl; have lf := mv I dh; have Y8 := mv I Qg; have YJ := mv I LD; clear I bO cU dt cZ er dE bl dh Qg LD))
   go_ret
   exact ⟨rfl, ew.out⟩
end Go.Proofs.Ytemhalnhbgkbcaa.V
end

section
namespace Go.Proofs.Ytemhalnhbgkbcaa.V
theorem imagePlays_walk (a : Int) (v : Value) (l : List St) (w : World) (h0 : (Lit.int .u32 a).wf = true) (h : StepsIs w v l) : Calls Try.prog 14 #[.int .u32 a, v] w fun e w' => e = .returned (.bool true) ∧ Below w.heap.size w w' :=
 Bb a (CJ h0).1 (CJ h0).2 v l w h
end Go.Proofs.Ytemhalnhbgkbcaa.V
end

