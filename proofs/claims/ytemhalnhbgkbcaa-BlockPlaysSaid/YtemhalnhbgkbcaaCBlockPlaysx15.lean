/- The law BlockPlays for every input: texts of ours, put together (part 16 of 17). No further condition. -/
import Derived.Test.YtemhalnhbgkbcaaCBlockPlaysx2
import Derived.Test.YtemhalnhbgkbcaaCBlockPlaysx6
import Derived.Test.YtemhalnhbgkbcaaCBlockPlaysx14
import Derived.Test.YtemhalnhbgkbcaaCBlockPlaysx9
import Derived.Outline
set_option linter.unusedVariables false
set_option linter.unusedSimpArgs false
open Go.RowKit Go.Proofs.YtemhalnhbgkbcaaW.PrintWords Go.Proofs.YtemhalnhbgkbcaaW.PrintLast Go.Proofs.YtemhalnhbgkbcaaW.PrintMore Go.Proofs.Ytemhalnhbgkbcaa.Z
section
namespace Go.Proofs.Ytemhalnhbgkbcaa.V
theorem RG.new (a : Int) (h0 : 0 ≤ a) (h1 : a < 4294967296) (s : ByteArray) (hs : gg s = true) : RG (vU a s) := by
 have hf : cC (cC a) = cC a := by unfold cC; omega
 have h2 : 0 ≤ cC a ∧ cC a < 4294967296 := by unfold cC; omega
 refine RG.of ⟨h2.1, h2.2, o6 (by kernel_rfl), o6 (by kernel_rfl)⟩ (by kernel_rfl) ?_
 have e1 : lu (vU a s) = true := by kernel_rfl
 have e2 : lE (vU a s) = true := by kernel_rfl
 unfold eE
 rw [e1, e2]
 show (cC (cC a) == cC a && (gg s && (decide (([] : List At).length ≤ 64) && (true && true)))) = true
 rw [hf, hs]
 simp
def CA.T5 : Bool × List (List Nat × List Nat) := (true, [([], []), ([0], [0]), ([1], [1]), ([2], [2]), ([3, 2, 2], [2, 3]), ([2], [2]), ([4, 5, 4, 2], [2, 4, 5]), ([6, 2], [2, 6]), ([2, 7], [2, 7])])
def CA.B5 : List Nat := [0, 1, 3, 7, 15, 7, 63, 127, 255]
theorem CA.tab5 : eI .any (opsOf Try.f10 5) = CA.T5 := by kernel_rfl
theorem CA.bits5 : eb CA.T5.2 CA.B5 = true := by kernel_rfl
def xG.T12 : Bool × List (List Nat × List Nat) := (true, [([], []), ([], []), ([0, 0], [0]), ([1, 2, 0, 1, 2], [1])])
def xG.B12 : List Nat := [0, 0, 1, 7]
theorem xG.tab12 : eI .any (opsOf Try.f10 12) = xG.T12 := by kernel_rfl
theorem xG.bits12 : eb xG.T12.2 xG.B12 = true := by kernel_rfl
def xF.T13 : Bool × List (List Nat × List Nat) := (true, [([], []), ([0], [0]), ([1], [1]), ([2], [2]), ([3, 2, 2], [2, 3]), ([2], [2]), ([4, 5, 4, 2], [2, 4, 5]), ([6, 2], [2, 6]), ([2, 7], [2, 7]), ([8, 6], [8]), ([9], [9]), ([10, 9, 9], [9, 10]), ([11, 9], [9, 11]), ([9, 12], [9, 12]), ([13, 11], [13]), ([14], [14]), ([15, 14, 14], [14, 15]), ([16, 14], [14, 16]), ([14, 17], [14, 17])])
def xF.B13 : List Nat := [0, 1, 3, 7, 15, 7, 63, 127, 255, 511, 1023, 2047, 4095, 8191, 16383, 32767, 65535, 131071, 262143]
theorem xF.tab13 : eI .any (opsOf Try.f10 13) = xF.T13 := by kernel_rfl
theorem xF.bits13 : eb xF.T13.2 xF.B13 = true := by kernel_rfl
set_option maxHeartbeats 16000000 in
set_option maxRecDepth 100000 in
theorem Kf (a0 : Int) (h0 : 0 ≤ a0) (h1 : a0 < 4294967296) (aff : ByteArray) (hza : aff.size ≤ 9223372036854775807) (hon : gg aff = false) (vl : Value) (w : World) :
  Calls Try.prog 10 #[.int .u32 a0, .string aff, vl] w fun e w' => e = .returned (.bool true) ∧ Below w.heap.size w w' := by
 have oy := fun w => BI a0 h0 h1 aff w
 rw [hon] at oy
 simp only [Bool.false_eq_true, if_false] at oy
 obtain ⟨b, hb⟩ : ∃ b, b = kC := ⟨_, rfl⟩
 have hbl : b.slots.length = 64 := by rw [hb]; rfl
 rw [← hb] at oy
 have how := fun w => vT aff hza w
 rw [hon] at how
 have HOW := ak how
 have HL := ak hbl
 have CF := ak oy
 have HZB := ak hb
 have HZR := ak (fun v w h => oH v w (by rw [← HZB.out]; exact h))
 have an := ak (Below.refl w.heap.size w)
 clear hb hbl oy how hon h0 h1 hza
 go_enter Try.func10, Try.ntmps10
 go_wp2_with (first
  | (go_at_call 41; refine (CF.out _).mono ?_; rintro e W1 ⟨v_, rfl, bc, I⟩; obtain ⟨iZ, p6, p7, rfl, dM, ew⟩ := bc; obtain ⟨Af, cf, rfl⟩ := Kd.R_slice dM; obtain ⟨Aa, ca, rfl⟩ := Kd.R_slice ew; have aA := ak (an.out.trans (I.mono an.out.size)); have bJ := ak (Kd.R_lower dM an.out.size); have ea := ak (Kd.R_lower ew an.out.size); clear iZ dM ew I an)
  | (refine aH (some 7) rfl rfl 57 rfl bu b6 ?_; intro gX W2 J aa I; have cw := ge aA J; have aK := mv I aA; have ch := mv I bJ; have er := mv I ea; have aI := ak (aa); clear J aa I aA bJ ea)
  | (refine a7 rfl 57 (.tmp 7) (.tmp 19) rfl gX (bk b.addr b.aff b.slots (.slice Af b.free.length cf) (.slice Aa b.attrs.length ca)) rfl rfl 57 _ aI.out 68 (by kernel_rfl) (ao _ _ _ _ _ HL.out) rfl (cA _ _ _ _ _ rfl rfl) ?_; intro W3 aa J; have aT := gb aK cw J; have cW := gr ch aI J; have eG := gr er aI J; have aQ := ak (aa); clear aa J aK ch er aI)
  | (go_at_call 42; refine (HOW.out _).mono ?_; rintro e W4 ⟨rfl, I⟩; have bq := mv I aT; have cU := mv I cW; have eo := mv I eG; have bg := mv I aQ; clear I aT cW eG aQ)
  | ((with_reducible refine aJ (N := 27) rfl ?_); refine fk (by rfl) ?_; refine aN rfl 57 (.tmp 7) rfl gX rfl _ _ _ bg.out Try.underlying57 rfl 68 (by kernel_rfl) (ao _ _ _ _ _ HL.out) ?_)
  | (go_at_call 43; refine (HZR.out _ _ ⟨_, _, _, _, rfl, ⟨HL.out, (rr cU).1, (rr cU).2, (rr eo).1, (rr eo).2⟩⟩).mono ?_; rintro e W5 ⟨rfl, I⟩; have bE := mv I bq; have cQ := mv I cU; have dJ := mv I eo; have bz := mv I bg; clear I bq cU eo bg)
  | (go_at_call 44; refine (uH _).mono ?_; rintro e W6 ⟨rfl, I⟩; have bZ := mv I bE; have dD := mv I cQ; have ef := mv I dJ; have bH := mv I bz; clear I bE cQ dJ bz))
 go_ret
 exact ⟨rfl, bZ.out⟩
set_option maxHeartbeats 16000000 in
set_option maxRecDepth 100000 in
theorem IJ (a0 : Int) (h0 : 0 ≤ a0) (h1 : a0 < 4294967296) (aff : ByteArray) (hza : aff.size ≤ 9223372036854775807) (hon : gg aff = true) (vl : Value) (l : List St) (w : World) (hst : StepsIs w vl l) :
  Calls Try.prog 10 #[.int .u32 a0, .string aff, vl] w fun e w' => e = .returned (.bool true) ∧ Below w.heap.size w w' := by
 obtain ⟨hlm, hok, A, c, rfl, hlc, hat⟩ := hst
 obtain ⟨b, hb⟩ : ∃ b, b = vU a0 aff := ⟨_, rfl⟩
 have hg : RG b := by rw [hb]; exact RG.new a0 h0 h1 aff hon
 have oy := fun w => BI a0 h0 h1 aff w
 rw [hon] at oy
 simp only [if_true] at oy
 have F5 := fun w => J3 a0 h0 h1 aff w
 rw [← hb] at oy F5
 obtain ⟨M, hM⟩ : ∃ M, M = b.attrs.map vc := ⟨_, rfl⟩
 have HL := ak hg.l64
 have HM := ak hM
 have HG := ak hg
 have CF := ak oy
 have CE := ak F5
 have HLB := fun Af cf Aa ca => ak (dc (bk b.addr b.aff b.slots (.slice Af b.free.length cf) (.slice Aa b.attrs.length ca)) (ao _ _ _ _ _ HL.out))
 have an := ak (Below.refl w.heap.size w)
 have HLM := ak hlm
 have HLC := ak hlc
 have HAT := ak hat
 have HOK := ak hok
 have how := fun w => vT aff hza w
 rw [hon] at how
 have HOW := ak how
 have HSM := ak (fun (b : Bk) (hg : RG b) => IC b (by have := hg.l64; omega) (by have := hg.sum; omega) (by have := hg.sum; omega))
 have HPL := ak (fun (b : Bk) (hg : RG b) => N0 b hg.ok (by have := hg.sum; omega) (by have := hg.sum; omega))
 clear hlm hlc hat hok hb hg oy F5 how hM h0 h1 hza hon
 go_enter Try.func10, Try.ntmps10
 go_wp2_with (first
  | (go_at_call 41; refine (CF.out _).mono ?_; rintro e W1 ⟨v_, rfl, bc, I⟩; obtain ⟨iZ, p6, p7, rfl, dM, ew⟩ := bc; obtain ⟨Af, cf, rfl⟩ := Kd.R_slice dM; obtain ⟨Aa, ca, rfl⟩ := Kd.R_slice ew; have aA := ak (an.out.trans (I.mono an.out.size)); have bJ := ak (Kd.R_lower dM an.out.size); have ea := ak (Kd.R_lower ew an.out.size); clear iZ dM ew I an)
  | (refine aH (some 7) rfl rfl 57 rfl bu b6 ?_; intro gX W2 J aa I; have cw := ge aA J; have aK := mv I aA; have ch := mv I bJ; have er := mv I ea; have aI := ak (aa); clear J aa I aA bJ ea)
  | (refine a7 rfl 57 (.tmp 7) (.tmp 19) rfl gX (bk b.addr b.aff b.slots (.slice Af b.free.length cf) (.slice Aa b.attrs.length ca)) rfl rfl 57 _ aI.out 68 (by kernel_rfl) (ao _ _ _ _ _ HL.out) rfl (cA _ _ _ _ _ rfl rfl) ?_; intro W3 aa J; have aT := gb aK cw J; have cW := gr ch aI J; have eG := gr er aI J; have aQ := ak (aa); clear aa J aK ch er aI)
  | (go_at_call 42; refine (HOW.out _).mono ?_; rintro e W4 ⟨rfl, I⟩; have bq := mv I aT; have cU := mv I cW; have eo := mv I eG; have bg := mv I aQ; clear I aT cW eG aQ)
  | (go_at_call 45; refine (CE.out _).mono ?_; rintro e W5 ⟨v9, rfl, fS, I⟩; obtain ⟨wZ, sZ, ta, rfl, ie, fP, fi⟩ := fS; obtain ⟨As, cs, rfl⟩ := Kd.R_slice ie; obtain ⟨Ap, cp, rfl⟩ := Kd.R_slice fP; rw [← HM.out] at fi; obtain ⟨Am, cm, rfl⟩ := Kd.R_slice fi; have bE := mv I bq; have cQ := mv I cU; have dJ := mv I eo; have bz := mv I bg; have dG := ak (Kd.R_lower ie bq.out.size); have eV := ak (Kd.R_lower fP bq.out.size); have dw := ak (Kd.R_lower fi bq.out.size); clear ie fP fi I bq cU eo bg)
  | (refine aH (some 9) rfl rfl 62 rfl dW (fun _ => by kernel_rfl) ?_; intro gY W6 J aa I; have jT := ge bE J; have gC := ne bz J; have bZ := mv I bE; have dD := mv I cQ; have ef := mv I dJ; have bH := mv I bz; have dN := mv I dG; have eU := mv I eV; have ez := mv I dw; have du := ak (aa); clear J aa I bE cQ dJ bz dG eV dw)
  | (refine a7 rfl 62 (.tmp 9) (.tmp 35) rfl gY (dH b.addr b.aff (.slice As b.slots.length cs) (.slice Ap b.free.length cp) (.slice Am M.length cm)) rfl rfl 62 _ du.out 5 (by kernel_rfl) rfl rfl (et _ _ rfl rfl rfl) ?_; intro W7 aa J; have eH := gb bZ jT J; have fA := gr dD du J; have ji := gr ef du J; have dP := gx bH du J; have gq := gr dN du J; have l4 := gr eU du J; have ju := gr ez du J; have iY := ak (aa); clear aa J bZ dD ef bH dN eU ez du))
 have aq : Below W7.heap.size W7 W7.drew := bL (Below.refl _ _)
 have gJ := mv aq eH; have jw := mv aq fA; have jv := mv aq ji; have gH := mv aq dP; have kI := mv aq gq; have lJ := mv aq l4; have lK := mv aq ju; have kG := mv aq iY
 clear aq eH fA ji dP gq l4 ju iY
 have hB := gJ
 have hF := jw
 have hG := jv
 have hX := gH
 have hS := kI
 have hP := lJ
 have hM := lK
 have hY := kG
 clear gJ jw jv gH kI lJ lK kG
 refine dR (n := 9) (S := fun w' => aX w' gX (bk b.addr b.aff b.slots (.slice Af b.free.length cf) (.slice Aa b.attrs.length ca)) 57 ∧ aX w' gY (dH b.addr b.aff (.slice As b.slots.length cs) (.slice Ap b.free.length cp) (.slice Am M.length cm)) 62) (ds := []) #[false, false, false, false, false, false, false, false, false] (by kernel_rfl) rfl rfl ⟨hX.out, hY.out⟩ (fun hHeld => ?_); refine b5 CA.tab5 CA.bits5 (fun ag bM => ?_)
 refine pu 0 ag.out ?_
 refine pu 1 ag.out ?_
 refine pu 2 ag.out ?_
 refine tk 3 ag.out bM.out hHeld ?_ (hv := by exact fun _ bj => aY 57 (.tmp 7) rfl gX rfl _ _ _ bj.1 Try.underlying57 rfl (HLB _ _ _ _).out)
 refine tk 5 ag.out bM.out hHeld ?_ (hv := by exact fun _ bj => aY 62 (.tmp 9) rfl gY rfl _ _ _ bj.2 Try.underlying62 rfl (by kernel_rfl))
 refine on 4 ag.out (fun K hK => ?_)
 refine gs Try.func36 #[.agg (bk b.addr b.aff b.slots (.slice Af b.free.length cf) (.slice Aa b.attrs.length ca)).toArray] (HPL.out _ HG.out _ HM.out _ _ ⟨_, _, _, _, rfl, ⟨HL.out, (rr hF).1, (rr hF).2, (rr hG).1, (rr hG).2⟩⟩) ?_
 rintro e V4 ⟨Bs, ds, Bf, df, Ba, da, rfl, xh, xg, zx, I⟩
 refine ⟨_, rfl, ?_⟩
 replace hB := mv I hB; replace hF := mv I hF; replace hG := mv I hG; replace hX := mv I hX; replace hS := mv I hS; replace hP := mv I hP; replace hM := mv I hM; replace hY := mv I hY; have Q1 := ak xh; have Q2 := ak xg; have Q3 := ak zx; clear xh xg zx I
 refine kn hK ⟨hX.out, hY.out⟩ (fun hHeld => ?_)
 clear hK K
 refine on 6 ag.out (fun K hK => ?_)
 refine gs Try.func46 #[.agg (dH b.addr b.aff (.slice Bs b.slots.length ds) (.slice Bf b.free.length df) (.slice Ba M.length da)).toArray, .agg (dH b.addr b.aff (.slice As b.slots.length cs) (.slice Ap b.free.length cp) (.slice Am M.length cm)).toArray] (HSM.out _ HG.out _ _ _ ⟨_, Bs, ds, Bf, df, Ba, da, rfl, ⟨HM.out, Q1.out.1, Q1.out.2, Q2.out.1, Q2.out.2, Q3.out.1, Q3.out.2⟩⟩ ⟨M, As, cs, Ap, cp, Am, cm, rfl, (jL.of HM.out hS.out hP.out hM.out)⟩) ?_
 rintro e V6 ⟨rfl, I⟩
 refine ⟨_, rfl, ?_⟩
 replace hB := mv I hB; replace hF := mv I hF; replace hG := mv I hG; replace hX := mv I hX; replace hS := mv I hS; replace hP := mv I hP; replace hM := mv I hM; replace hY := mv I hY; clear Q1 Q2 Q3 I
 refine kn hK ⟨hX.out, hY.out⟩ (fun hHeld => ?_)
 clear hK K
 refine pu 7 ag.out ?_
 refine pu 8 ag.out ?_
 refine dn ag.out ?_
 clear hHeld
 go_wp2_with fail
 go_loopw [10, 11, 12, 13, 14, 47] (fun _ _ _ _ _ i W => ∃ (k : Nat) (b : Bk), k ≤ l.length ∧ k ≤ 20 ∧ i = .int .i64 k ∧ Aside0 (RG b) ∧ Aside0 (OC W w.heap.size gX b) ∧ Aside0 (RX W w.heap.size gY b) ∧ Aside0 (Below w.heap.size w W)) (fun _ _ _ _ _ i _ => l.length - (intOf i).toNat)
 case atStart => exact ⟨0, b, by omega, by omega, rfl, HG, ⟨⟨HL.out, _, _, hX.out, hF.out, hG.out⟩⟩, ⟨⟨M, _, _, _, HM.out, hY.out, hS.out, hP.out, hM.out⟩⟩, hB⟩
 case round =>
  clear hB hF hG hX hS hP hM hY HL HM HG CF CE HLB HOW
  obtain ⟨k, b, hk, ag9, rfl, HG, HO, HR, an⟩ := hrel
  obtain ⟨W, rfl⟩ : ∃ W : World, W = wr := ⟨_, rfl⟩
  obtain ⟨Af, cf, Aa, ca, hx, hf, ha⟩ := HO.out.open
  have Qx := HO.out.l64
  obtain ⟨M, As, cs, Ap, cp, Am, cm, hm, hy, hs, hp, hmm⟩ := HR.out.open
  have HL := ak Qx
  have HM := ak hm
  have aZ := ak hx
  have bU := ak hf
  have eT := ak ha
  have jt := ak hy
  have bl := ak hs
  have eR := ak hp
  have cb := ak hmm
  clear HO HR Qx hm hx hf ha hy hs hp hmm
  by_cases hkl : k < l.length
  ·skip
   obtain ⟨s, hs⟩ : ∃ s, s = l.getD k K8 := ⟨_, rfl⟩
   have hsm : s ∈ l := by rw [hs, show l.getD k K8 = l[k] by simp [List.getD, hkl]]; exact List.getElem_mem hkl
   have hso := HOK.out s hsm
   have HSO := ak hso
   obtain ⟨ad, hA, hc⟩ := HAT.out k hkl
   subst hA
   rw [← hs] at hc
   have hbw := an.out
   have mP := (hbw.cell (World.block_lt_of_cell? w _ (hc 0 _ rfl))).trans (hc 0 _ rfl)
   have sG := (hbw.cell (World.block_lt_of_cell? w _ (hc 1 _ rfl))).trans (hc 1 _ rfl)
   have kR := (hbw.cell (World.block_lt_of_cell? w _ (hc 2 _ rfl))).trans (hc 2 _ rfl)
   have qf := (hbw.cell (World.block_lt_of_cell? w _ (hc 3 _ rfl))).trans (hc 3 _ rfl)
   have pA := (hbw.cell (World.block_lt_of_cell? w _ (hc 4 _ rfl))).trans (hc 4 _ rfl)
   have Ky := (hbw.cell (World.block_lt_of_cell? w _ (hc 5 _ rfl))).trans (hc 5 _ rfl)
   rw [Nat.add_zero] at mP
   rw [nw _ _ 1 (by omega)] at sG
   rw [nw _ _ 2 (by omega)] at kR
   rw [nw _ _ 3 (by omega)] at qf
   rw [nw _ _ 4 (by omega)] at pA
   rw [nw _ _ 5 (by omega)] at Ky
   have p0 : decide ((k : Int) < (l.length : Int)) = true := by simp; omega
   have p1 : ((k : Int) < (l.length : Int)) = True := eq_true (by omega)
   have p2 : ((0 : Int) ≤ (k : Int)) = True := eq_true (by omega)
   have p3 : (k < l.length) = True := eq_true hkl
   have HKL := ak hkl
   clear hs hsm hso hc hbw hkl
   have HLB := ak (dc (bk b.addr b.aff b.slots (.slice Af b.free.length cf) (.slice Aa b.attrs.length ca)) (ao _ _ _ _ _ HL.out))
   by_cases h20 : k < 20
   ·have u0 : decide ((20 : Int) ≤ (k : Int)) = false := by simp; omega
    have u1 : ((20 : Int) ≤ (k : Int)) = False := eq_false (by omega)
    go_wp2_with (first
     | (refine aH (some 11) rfl rfl 79 rfl [.int .i64 0, .int .i64 0, .string ⟨#[]⟩, .string ⟨#[]⟩, .slice none 0 0, .string ⟨#[]⟩] (fun _ => by kernel_rfl) ?_; intro gT W1 J aa I; have ld := ge an J; have iL := ne aZ J; have jf := ne jt J; have aA := ak (an.out.trans (I.mono an.out.size)); have bJ := mv I bU; have ea := mv I eT; have bC := mv I bl; have ee := mv I eR; have b7 := mv I cb; have au := mv I aZ; have ll := mv I jt; have jh := ak (aa); clear J aa I an bU eT bl eR cb aZ jt mP sG kR qf pA Ky)
     | (refine a7 rfl 79 (.tmp 11) (.tmp 51) rfl gT [.int .i64 s.kd, .int .i64 s.n, .string s.a.f0, .string s.a.f1, .slice s.A s.l.length s.c, .string s.aff] rfl rfl 79 _ jh.out 6 (by kernel_rfl) rfl rfl (fun u_ sy => by simp only [List.mem_cons, List.not_mem_nil, or_false] at sy; rcases sy with rfl | rfl | rfl | rfl | rfl | rfl <;> rfl) ?_; intro W2 aa J; have aK := gb aA ld J; have ch := gr bJ jh J; have er := gr ea jh J; have b4 := gr bC jh J; have ej := gr ee jh J; have dm := gr b7 jh J; have aI := gx au jh J; have dk := gx ll jh J; have re := ak (aa); clear aa J aA bJ ea bC ee b7 au ll jh)
     | ((with_reducible refine aJ (N := 55) rfl ?_); refine aN rfl 57 (.tmp 7) rfl gX rfl _ _ _ aI.out Try.underlying57 rfl 68 (by kernel_rfl) (ao _ _ _ _ _ HL.out) ?_)
     | ((with_reducible refine aJ (N := 56) rfl ?_); refine aN rfl 62 (.tmp 9) rfl gY rfl _ _ _ dk.out Try.underlying62 rfl 5 (by kernel_rfl) rfl ?_)
     | ((with_reducible refine aJ (N := 57) rfl ?_); refine aN rfl 79 (.tmp 11) rfl gT rfl _ _ _ re.out Try.underlying79 rfl 6 (by kernel_rfl) rfl ?_)
     | (go_at_call 47; refine (Q7 b HG.out s.kd s.n HSO.out.n s.a HSO.out.z0 HSO.out.z1 s.l HSO.out.u HSO.out.lm s.A s.c HSO.out.lc s.aff HSO.out.za _ _ _ w.heap.size aK.out.size ⟨HL.out, _, _, rfl, ch.out, er.out⟩ ⟨_, _, _, rfl, b4.out, ej.out, by rw [← HM.out]; exact dm.out⟩ (Kd.C_below HSO.out.r aK.out)).mono ?_; rintro e W3 ⟨v_, v9, nb, rfl, hrg, bc, fS, I⟩; have HRG := ak hrg; have HNL := ak hrg.l64; obtain ⟨iZ, p6, p7, rfl, dM, ew⟩ := bc; obtain ⟨A8, c8, rfl⟩ := Kd.R_slice dM; obtain ⟨A9, c9, rfl⟩ := Kd.R_slice ew; obtain ⟨wZ, sZ, ta, rfl, ie, fP, fi⟩ := fS; obtain ⟨A1, c1, rfl⟩ := Kd.R_slice ie; obtain ⟨A2, c2, rfl⟩ := Kd.R_slice fP; obtain ⟨NM, hNM⟩ : ∃ NM, NM = nb.attrs.map vc := ⟨_, rfl⟩; rw [← hNM] at fi; have HNM := ak hNM; obtain ⟨A3, c3, rfl⟩ := Kd.R_slice fi; have aT := mv I aK; have cW := mv I ch; have eG := mv I er; have cH := mv I b4; have eN := mv I ej; have dT := mv I dm; have aQ := mv I aI; have dj := mv I dk; have ey := mv I re; have RZ := ak (dM); have xQ := ak (ew); have xP := ak (ie); have RJ := ak (fP); have RT := ak (fi); clear hrg iZ dM ew hNM ie fP fi I aK ch er b4 ej dm aI dk re)
     | (refine aH (some 12) rfl rfl 57 rfl bu b6 ?_; intro gV W4 J aa I; have dQ := ge aT J; have fL := ne aQ J; have fp := ne dj J; have sR := ne ey J; have bq := mv I aT; have cU := mv I cW; have eo := mv I eG; have dC := mv I cH; have fg := mv I eN; have dZ := mv I dT; have bg := mv I aQ; have di := mv I dj; have eF := mv I ey; have RY := mv I RZ; have RV := mv I xQ; have xO := mv I xP; have RI := mv I RJ; have RS := mv I RT; have KW := ak (aa); clear J aa I aT cW eG cH eN dT aQ dj ey RZ xQ xP RJ RT)
     | (refine aH (some 13) rfl rfl 62 rfl dW (fun _ => by kernel_rfl) ?_; intro gU W5 J aa I; have fR := ge bq J; have ig := ne bg J; have dO := ne di J; have jI := ne eF J; have UG := ne KW J; have bE := mv I bq; have cQ := mv I cU; have dJ := mv I eo; have dG := mv I dC; have eV := mv I fg; have dw := mv I dZ; have bz := mv I bg; have dY := mv I di; have bQ := mv I eF; have RW := mv I RY; have RU := mv I RV; have kA := mv I xO; have RH := mv I RI; have RR := mv I RS; have oM := mv I KW; have ff := ak (aa); clear J aa I bq cU eo dC fg dZ bg di eF RY RV xO RI RS KW)
     | (refine a7 rfl 57 (.tmp 12) (.tmp 59) rfl gV (bk nb.addr nb.aff nb.slots (.slice A8 nb.free.length c8) (.slice A9 nb.attrs.length c9)) rfl rfl 57 _ oM.out 68 (by kernel_rfl) (ao _ _ _ _ _ HNL.out) rfl (cA _ _ _ _ _ rfl rfl) ?_; intro W6 aa J; have bZ := gb bE dQ J; have dD := gr cQ oM J; have ef := gr dJ oM J; have dN := gr dG oM J; have eU := gr eV oM J; have ez := gr dw oM J; have bH := gn bz fL J; have du := gx dY oM J; have fJ := gx bQ oM J; have nI := gr RW oM J; have nF := gr RU oM J; have kY := gr kA oM J; have RF := gr RH oM J; have RQ := gr RR oM J; have Rt := ak (aa); have dI := gx ff oM J; clear aa J bE cQ dJ dG eV dw bz dY bQ RW RU kA RH RR oM ff)
     | (refine a7 rfl 62 (.tmp 13) (.tmp 60) rfl gU (dH nb.addr nb.aff (.slice A1 nb.slots.length c1) (.slice A2 nb.free.length c2) (.slice A3 NM.length c3)) rfl rfl 62 _ dI.out 5 (by kernel_rfl) rfl rfl (et _ _ rfl rfl rfl) ?_; intro W7 aa J; have eH := gb bZ fR J; have fA := gr dD dI J; have ji := gr ef dI J; have gq := gr dN dI J; have l4 := gr eU dI J; have ju := gr ez dI J; have dP := gx bH dI J; have iY := gn du dO J; have nB := gx fJ dI J; have nH := gr nI dI J; have nE := gr nF dI J; have kJ := gr kY dI J; have RE := gr RF dI J; have RP := gr RQ dI J; have Rs := gx Rt dI J; have nA := ak (aa); clear aa J bZ dD ef dN eU ez bH du fJ nI nF kY RF RQ Rt dI))
    have aq : Below W7.heap.size W7 W7.drew := bL (Below.refl _ _)
    have gJ := mv aq eH; have jw := mv aq fA; have jv := mv aq ji; have kI := mv aq gq; have lJ := mv aq l4; have lK := mv aq ju; have gH := mv aq dP; have kG := mv aq iY; have mi := mv aq nB; have nG := mv aq nH; have nD := mv aq nE; have uJ := mv aq kJ; have RD := mv aq RE; have RO := mv aq RP; have Rq := mv aq Rs; have nz := mv aq nA
    clear aq eH fA ji gq l4 ju dP iY nB nH nE kJ RE RP Rs nA
    have hB := gJ
    have hF := jw
    have hG := jv
    have hS := kI
    have hP := lJ
    have hM := lK
    have hX := gH
    have hY := kG
    have hT := mi
    have hC := nG
    have hD := nD
    have hI := uJ
    have hJ := RD
    have hE := RO
    have hV := Rq
    have hU := nz
    clear gJ jw jv kI lJ lK gH kG mi nG nD uJ RD RO Rq nz
    have HLN := fun A8 c8 A9 c9 => dc (bk nb.addr nb.aff nb.slots (.slice A8 nb.free.length c8) (.slice A9 nb.attrs.length c9)) (ao _ _ _ _ _ HNL.out)
    refine dR (n := 4) (S := fun w' => aX w' gV (bk nb.addr nb.aff nb.slots (.slice A8 nb.free.length c8) (.slice A9 nb.attrs.length c9)) 57 ∧ aX w' gU (dH nb.addr nb.aff (.slice A1 nb.slots.length c1) (.slice A2 nb.free.length c2) (.slice A3 NM.length c3)) 62) (ds := []) #[false, false, false, false] (by kernel_rfl) rfl rfl ⟨hV.out, hU.out⟩ (fun hHeld => ?_); refine b5 xG.tab12 xG.bits12 (fun ag bM => ?_)
    refine tk 0 ag.out bM.out hHeld ?_ (hv := by exact fun _ bj => aY 57 (.tmp 12) rfl gV rfl _ _ _ bj.1 Try.underlying57 rfl (HLN _ _ _ _))
    refine tk 1 ag.out bM.out hHeld ?_ (hv := by exact fun _ bj => aY 62 (.tmp 13) rfl gU rfl _ _ _ bj.2 Try.underlying62 rfl (by kernel_rfl))
    refine ow 2 ag.out (fun K hK => ?_)
    refine bS (by rfl) rfl 57 (.tmp 7) (.tmp 62) rfl gX (bk nb.addr nb.aff nb.slots (.slice A8 nb.free.length c8) (.slice A9 nb.attrs.length c9)) rfl rfl 57 _ hX.out 68 (by kernel_rfl) (ao _ _ _ _ _ HNL.out) (ao _ _ _ _ _ HL.out) (cA _ _ _ _ _ rfl rfl) ?_
    intro V2 aa J; replace hB := gb hB cw J; replace hF := gr hF hX J; replace hG := gr hG hX J; replace hS := gr hS hX J; replace hP := gr hP hX J; replace hM := gr hM hX J; replace hY := gx hY hX J; replace hT := gx hT hX J; replace hC := gr hC hX J; replace hD := gr hD hX J; replace hI := gr hI hX J; replace hJ := gr hJ hX J; replace hE := gr hE hX J; replace hV := gm hV fL J; replace hU := gx hU hX J; replace hX := ak (aa); clear aa J
    refine hK.out _ _ ⟨hV.out, hU.out⟩ (fun hHeld => ?_)
    clear hK K
    refine ow 3 ag.out (fun K hK => ?_)
    refine bS (by rfl) rfl 62 (.tmp 9) (.tmp 63) rfl gY (dH nb.addr nb.aff (.slice A1 nb.slots.length c1) (.slice A2 nb.free.length c2) (.slice A3 NM.length c3)) rfl rfl 62 _ hY.out 5 (by kernel_rfl) rfl rfl (et _ _ rfl rfl rfl) ?_
    intro V3 aa J; replace hB := gb hB jT J; replace hF := gr hF hY J; replace hG := gr hG hY J; replace hS := gr hS hY J; replace hP := gr hP hY J; replace hM := gr hM hY J; replace hX := gx hX hY J; replace hT := gx hT hY J; replace hC := gr hC hY J; replace hD := gr hD hY J; replace hI := gr hI hY J; replace hJ := gr hJ hY J; replace hE := gr hE hY J; replace hV := gx hV hY J; replace hU := gm hU dO J; replace hY := ak (aa); clear aa J
    refine hK.out _ _ ⟨hV.out, hU.out⟩ (fun hHeld => ?_)
    clear hK K
    refine dn ag.out ?_
    clear hHeld
    go_wp2_with fail
    have aq : Below V3.heap.size V3 V3.drew := bL (Below.refl _ _)
    have NG := mv aq hB; have M7 := mv aq hF; have MO := mv aq hG; have Mb := mv aq hS; have Mf := mv aq hP; have Mx := mv aq hM; have LY := mv aq hX; have LU := mv aq hY; have L5 := mv aq hT; have NC := mv aq hC; have Nz := mv aq hD; have MJ := mv aq hI; have MC := mv aq hJ; have Nr := mv aq hE; have LZ := mv aq hV; have L2 := mv aq hU
    clear aq hB hF hG hS hP hM hX hY hT hC hD hI hJ hE hV hU
    have hB := NG
    have hF := M7
    have hG := MO
    have hS := Mb
    have hP := Mf
    have hM := Mx
    have hX := LY
    have hY := LU
    have hT := L5
    have hC := NC
    have hD := Nz
    have hI := MJ
    have hJ := MC
    have hE := Nr
    have hV := LZ
    have hU := L2
    clear NG M7 MO Mb Mf Mx LY LU L5 NC Nz MJ MC Nr LZ L2
    have hrr := IG HRG.out.ok (jD HRG.out.right) HRG.out.l64
    have HRR := ak (G6 nb true hrr NM HNM.out)
    have hrt := fun v w h => e8 nb HRG.out.ok v w h
    rw [HRG.out.right] at hrt
    have HRT := ak hrt
    clear hrr hrt
    refine dR (n := 19) (S := fun w' => aX w' gX (bk nb.addr nb.aff nb.slots (.slice A8 nb.free.length c8) (.slice A9 nb.attrs.length c9)) 57 ∧ aX w' gY (dH nb.addr nb.aff (.slice A1 nb.slots.length c1) (.slice A2 nb.free.length c2) (.slice A3 NM.length c3)) 62) (ds := []) #[false, false, false, false, false, false, false, false, false, false, false, false, false, false, false, false, false, false, false] (by kernel_rfl) rfl rfl ⟨hX.out, hY.out⟩ (fun hHeld => ?_); refine b5 xF.tab13 xF.bits13 (fun ag bM => ?_)
    refine pu 0 ag.out ?_
    refine pu 1 ag.out ?_
    refine pu 2 ag.out ?_
    refine tk 3 ag.out bM.out hHeld ?_ (hv := by exact fun _ bj => aY 57 (.tmp 7) rfl gX rfl _ _ _ bj.1 Try.underlying57 rfl (HLN _ _ _ _))
    refine tk 5 ag.out bM.out hHeld ?_ (hv := by exact fun _ bj => aY 62 (.tmp 9) rfl gY rfl _ _ _ bj.2 Try.underlying62 rfl (by kernel_rfl))
    refine on 4 ag.out (fun K hK => ?_)
    refine gs Try.func36 #[.agg (bk nb.addr nb.aff nb.slots (.slice A8 nb.free.length c8) (.slice A9 nb.attrs.length c9)).toArray] (HPL.out _ HRG.out _ HNM.out _ _ ⟨_, _, _, _, rfl, ⟨HNL.out, (rr hC).1, (rr hC).2, (rr hD).1, (rr hD).2⟩⟩) ?_
    rintro e V4 ⟨Bs, ds, Bf, df, Ba, da, rfl, xh, xg, zx, I⟩
    refine ⟨_, rfl, ?_⟩
    replace hB := mv I hB; replace hF := mv I hF; replace hG := mv I hG; replace hS := mv I hS; replace hP := mv I hP; replace hM := mv I hM; replace hX := mv I hX; replace hY := mv I hY; replace hT := mv I hT; replace hC := mv I hC; replace hD := mv I hD; replace hI := mv I hI; replace hJ := mv I hJ; replace hE := mv I hE; replace hV := mv I hV; replace hU := mv I hU; have Q1 := ak xh; have Q2 := ak xg; have Q3 := ak zx; clear xh xg zx I
    refine kn hK ⟨hX.out, hY.out⟩ (fun hHeld => ?_)
    clear hK K
    refine on 6 ag.out (fun K hK => ?_)
    refine gs Try.func46 #[.agg (dH nb.addr nb.aff (.slice Bs nb.slots.length ds) (.slice Bf nb.free.length df) (.slice Ba NM.length da)).toArray, .agg (dH nb.addr nb.aff (.slice A1 nb.slots.length c1) (.slice A2 nb.free.length c2) (.slice A3 NM.length c3)).toArray] (HSM.out _ HRG.out _ _ _ ⟨_, Bs, ds, Bf, df, Ba, da, rfl, ⟨HNM.out, Q1.out.1, Q1.out.2, Q2.out.1, Q2.out.2, Q3.out.1, Q3.out.2⟩⟩ ⟨NM, A1, c1, A2, c2, A3, c3, rfl, jL.of HNM.out hI.out hJ.out hE.out⟩) ?_
    rintro e V6 ⟨rfl, I⟩
    refine ⟨_, rfl, ?_⟩
    replace hB := mv I hB; replace hF := mv I hF; replace hG := mv I hG; replace hS := mv I hS; replace hP := mv I hP; replace hM := mv I hM; replace hX := mv I hX; replace hY := mv I hY; replace hT := mv I hT; replace hC := mv I hC; replace hD := mv I hD; replace hI := mv I hI; replace hJ := mv I hJ; replace hE := mv I hE; replace hV := mv I hV; replace hU := mv I hU; clear Q1 Q2 Q3 I
    refine kn hK ⟨hX.out, hY.out⟩ (fun hHeld => ?_)
    clear hK K
    refine pu 7 ag.out ?_
    refine pu 8 ag.out ?_
    refine pu 9 ag.out ?_
    refine tk 10 ag.out bM.out hHeld ?_ (hv := by exact fun _ bj => aY 62 (.tmp 9) rfl gY rfl _ _ _ bj.2 Try.underlying62 rfl (by kernel_rfl))
    refine on 11 ag.out (fun K hK => ?_)
    refine gs Try.func35 #[.agg (dH nb.addr nb.aff (.slice A1 nb.slots.length c1) (.slice A2 nb.free.length c2) (.slice A3 NM.length c3)).toArray] (HRR.out A1 A2 A3 c1 c2 c3 _ ⟨(rr hI).1, (rr hI).2⟩ ⟨(rr hJ).1, (rr hJ).2⟩ ⟨(rr hE).1, (rr hE).2⟩) ?_
    rintro e p9 ⟨rfl, I⟩
    refine ⟨_, rfl, ?_⟩
    replace hB := mv I hB; replace hF := mv I hF; replace hG := mv I hG; replace hS := mv I hS; replace hP := mv I hP; replace hM := mv I hM; replace hX := mv I hX; replace hY := mv I hY; replace hT := mv I hT; replace hC := mv I hC; replace hD := mv I hD; replace hI := mv I hI; replace hJ := mv I hJ; replace hE := mv I hE; replace hV := mv I hV; replace hU := mv I hU; clear I
    refine kn hK ⟨hX.out, hY.out⟩ (fun hHeld => ?_)
    clear hK K
    refine pu 12 ag.out ?_
    refine pu 13 ag.out ?_
    refine pu 14 ag.out ?_
    refine tk 15 ag.out bM.out hHeld ?_ (hv := by exact fun _ bj => aY 57 (.tmp 7) rfl gX rfl _ _ _ bj.1 Try.underlying57 rfl (HLN _ _ _ _))
    refine on 16 ag.out (fun K hK => ?_)
    refine gs Try.func48 #[.agg (bk nb.addr nb.aff nb.slots (.slice A8 nb.free.length c8) (.slice A9 nb.attrs.length c9)).toArray] (HRT.out _ _ ⟨_, _, _, _, rfl, ⟨HNL.out, (rr hC).1, (rr hC).2, (rr hD).1, (rr hD).2⟩⟩) ?_
    rintro e V16 ⟨rfl, I⟩
    refine ⟨_, rfl, ?_⟩
    replace hB := mv I hB; replace hF := mv I hF; replace hG := mv I hG; replace hS := mv I hS; replace hP := mv I hP; replace hM := mv I hM; replace hX := mv I hX; replace hY := mv I hY; replace hT := mv I hT; replace hC := mv I hC; replace hD := mv I hD; replace hI := mv I hI; replace hJ := mv I hJ; replace hE := mv I hE; replace hV := mv I hV; replace hU := mv I hU; clear I
    refine kn hK ⟨hX.out, hY.out⟩ (fun hHeld => ?_)
    clear hK K
    refine pu 17 ag.out ?_
    refine pu 18 ag.out ?_
    refine dn ag.out ?_
    clear hHeld
    go_wp2_with fail
    go_roundw
    case rel => exact ⟨k + 1, nb, by have := HKL.out; omega, by omega, by (first | rfl | (simp only [intOf]; congr 1; omega) | skip), HRG, ⟨⟨HNL.out, _, _, hX.out, hC.out, hD.out⟩⟩, ⟨⟨NM, _, _, _, HNM.out, hY.out, hI.out, hJ.out, hE.out⟩⟩, hB⟩
    case measure => have := HKL.out; simp [intOf]; omega
   ·have u0 : decide ((20 : Int) ≤ (k : Int)) = true := by simp; omega
    have u1 : ((20 : Int) ≤ (k : Int)) = True := eq_true (by omega)
    go_wp2_with (first
     | (refine aH (some 11) rfl rfl 79 rfl [.int .i64 0, .int .i64 0, .string ⟨#[]⟩, .string ⟨#[]⟩, .slice none 0 0, .string ⟨#[]⟩] (fun _ => by kernel_rfl) ?_; intro gT W1 J aa I; have ld := ge an J; have iL := ne aZ J; have jf := ne jt J; have aA := ak (an.out.trans (I.mono an.out.size)); have bJ := mv I bU; have ea := mv I eT; have bC := mv I bl; have ee := mv I eR; have b7 := mv I cb; have au := mv I aZ; have ll := mv I jt; have jh := ak (aa); clear J aa I an bU eT bl eR cb aZ jt mP sG kR qf pA Ky)
     | (refine a7 rfl 79 (.tmp 11) (.tmp 51) rfl gT [.int .i64 s.kd, .int .i64 s.n, .string s.a.f0, .string s.a.f1, .slice s.A s.l.length s.c, .string s.aff] rfl rfl 79 _ jh.out 6 (by kernel_rfl) rfl rfl (fun u_ sy => by simp only [List.mem_cons, List.not_mem_nil, or_false] at sy; rcases sy with rfl | rfl | rfl | rfl | rfl | rfl <;> rfl) ?_; intro W2 aa J; have aK := gb aA ld J; have ch := gr bJ jh J; have er := gr ea jh J; have b4 := gr bC jh J; have ej := gr ee jh J; have dm := gr b7 jh J; have aI := gx au jh J; have dk := gx ll jh J; have re := ak (aa); clear aa J aA bJ ea bC ee b7 au ll jh)
     | (go_at_call 44; refine (uH _).mono ?_; rintro e W3 ⟨rfl, I⟩; have aT := mv I aK; have cW := mv I ch; have eG := mv I er; have cH := mv I b4; have eN := mv I ej; have dT := mv I dm; have aQ := mv I aI; have dj := mv I dk; have ey := mv I re; clear I aK ch er b4 ej dm aI dk re))
    go_ret
    exact ⟨rfl, aT.out⟩
  ·have p0 : decide ((k : Int) < (l.length : Int)) = false := by simp; omega
   have p1 : ((k : Int) < (l.length : Int)) = False := eq_false (by omega)
   have p3 : (k < l.length) = False := eq_false hkl
   go_wp2_with (first
    | (go_at_call 44; refine (uH _).mono ?_; rintro e W1 ⟨rfl, I⟩; have aA := ak (an.out.trans (I.mono an.out.size)); have bJ := mv I bU; have ea := mv I eT; have bC := mv I bl; have ee := mv I eR; have b7 := mv I cb; have au := mv I aZ; have ll := mv I jt; clear I an bU eT bl eR cb aZ jt))
   go_ret
   exact ⟨rfl, aA.out⟩
end Go.Proofs.Ytemhalnhbgkbcaa.V
end

section
namespace Go.Proofs.Ytemhalnhbgkbcaa.V
theorem blockPlays_walk (a : Int) (s : ByteArray) (v : Value) (l : List St) (w : World) (h0 : (Lit.int .u32 a).wf = true) (h1 : s.size ≤ 140737488351232) (h : StepsIs w v l) : Calls Try.prog 10 #[.int .u32 a, .string s, v] w fun e w' => e = .returned (.bool true) ∧ Below w.heap.size w w' := by
 have ha := Iv h0
 cases ho : gg s with
 | true => exact IJ a ha.1 ha.2 s (by omega) ho v l w h
 | false => exact Kf a ha.1 ha.2 s (by omega) ho v w
end Go.Proofs.Ytemhalnhbgkbcaa.V
end

