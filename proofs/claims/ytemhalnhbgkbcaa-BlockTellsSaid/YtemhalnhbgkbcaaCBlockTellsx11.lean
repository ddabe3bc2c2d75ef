/- The law BlockTells for every input: texts of ours, put together (part 12 of 16). No further condition. -/
import Derived.Test.YtemhalnhbgkbcaaCBlockTellsx2
import Derived.Test.YtemhalnhbgkbcaaCBlockTellsx6
import Derived.Test.YtemhalnhbgkbcaaCBlockTellsx7
import Derived.Test.YtemhalnhbgkbcaaCBlockTellsx10
import Derived.Test.YtemhalnhbgkbcaaCBlockTellsx8
import Derived.Test.YtemhalnhbgkbcaaCBlockTellsx4
import Derived.Outline
import Derived.Test.YtemhalnhbgkbcaaCBlockTellsx9
import Derived.Test.YtemhalnhbgkbcaaCBlockTellsx3
set_option linter.unusedVariables false
set_option linter.unusedSimpArgs false
open Go.RowKit Go.Proofs.YtemhalnhbgkbcaaW.PrintWords Go.Proofs.YtemhalnhbgkbcaaW.PrintLast Go.Proofs.YtemhalnhbgkbcaaW.PrintMore Go.Proofs.Ytemhalnhbgkbcaa.Z
section
namespace Go.Proofs.Ytemhalnhbgkbcaa.V
set_option maxHeartbeats 16000000 in
set_option maxRecDepth 100000 in
theorem DE (b : Bk) (hk : BkOk b) (l : List Int) (hu : ∀ x ∈ l, 0 ≤ x ∧ x < 4294967296) (hll : l.length ≤ 1000) (Al : Option Addr) (cl : Nat) (hrt : dm b = false) (v : Value) (w : World) (h : fS w v b) (hC : Kd.C (Kd.int .u32) w Al l.length l) :
  Calls Try.prog 52 #[v, .slice Al l.length cl] w fun e w' => ∃ v' vo, e = .returned (.tuple #[v', vo, .int .i64 1]) ∧ ea w' w.heap.size v' jP ∧ Kd.R (Kd.int .u32) 46 w' w.heap.size (fun _ => True) vo [] ∧ Below w.heap.size w w' := by
 obtain ⟨A, c, A', c', rfl, hr⟩ := h
 have HL := ak hr.l64
 have HR := ak hr
 have HK := ak hk
 have HRT := ak hrt
 have HC := ak hC
 have ae := ak (Below.refl w.heap.size w)
 clear hr hk hrt hC
 go_enter Try.func52, Try.ntmps52
 go_wp2_with (first
  | (refine aE rfl 57 (.tmp 0) rfl _ rfl ?_; intro gX W1 J aa I; have bQ := ge ae J; have ai := ak (ae.out.trans (I.mono ae.out.size)); have ah := ak (aa); clear J aa I ae)
  | (refine aw (some 4) rfl rfl 57 rfl a9 bP ?_; intro gZ W2 J aa I; have bN := ge ai J; have aG := ne ah J; have av := mv I ai; have au := mv I ah; have bY := ak (aa); clear J aa I ai ah)
  | ((with_reducible refine ax (N := 12) rfl ?_); go_loud (refine az rfl 57 (.tmp 2) rfl gX rfl _ _ _ au.out Try.underlying57 rfl 68 (by kernel_rfl) (ag _ _ _ _ _ HL.out) ?_))
  | (go_at_call 48; go_loud (refine (dH b HK.out _ _ ⟨A, c, A', c', rfl, HR.out.below av.out⟩).mono ?_; rintro e W3 ⟨rfl, I⟩; rw [HRT.out]; have aD := mv I av; have aA := mv I au; have bL := mv I bY; clear I av au bY))
  | (refine fq rfl 57 #[] rfl a9 la ?_)
  | (refine aN rfl 57 (.tmp 4) (.tmp 15) rfl gZ a9 rfl rfl 57 _ bL.out 68 (by kernel_rfl) rfl rfl iY ?_; intro W4 aa J; have aY := gb aD bN J; have aV := gn aA aG J; have a8 := ak (aa); clear aa J aD aA bL))
 exact bodyPost_ret (ik rfl _ _ gZ 57 _ (0, 0) _ rfl a8.out Try.underlying57 rfl (by simp only [List.size_toArray]; exact cg _ rfl)) rfl ⟨_, _, rfl, mR _ _, Kd.R_nil _ _ _ _ _, aY.out⟩
set_option maxHeartbeats 16000000 in
set_option maxRecDepth 100000 in
theorem oC (b : Bk) (hk : BkOk b) (l : List Int) (hu : ∀ x ∈ l, 0 ≤ x ∧ x < 4294967296) (hll : l.length ≤ 1000) (Al : Option Addr) (cl : Nat) (hrt : dm b = true) (v : Value) (w : World) (h : fS w v b) (hC : Kd.C (Kd.int .u32) w Al l.length l) :
  Calls Try.prog 52 #[v, .slice Al l.length cl] w fun e w' => ∃ v' vo, e = .returned (.tuple #[v', vo, .int .i64 0]) ∧ ea w' w.heap.size v' (lC b l) ∧ Kd.R (Kd.int .u32) 46 w' w.heap.size (fun _ => True) vo (relL b l).2 ∧ Below w.heap.size w w' := by
 obtain ⟨A, c, A', c', rfl, hr⟩ := h
 have HL := ak hr.l64
 have HR := ak hr
 have HK := ak hk
 have HRT := ak hrt
 have HC := ak hC
 have ae := ak (Below.refl w.heap.size w)
 have hp := iw hrt
 have hsum := hp.sum_le hk hr.l64
 have hrk := sD hk hp hr.l64 l
 have HRK := ak hrk
 have HFL := ak (show b.free.length ≤ 64 by omega)
 have hal : b.attrs.length ≤ 64 := by omega
 have HAL := ak hal
 have HCP := ak (mc b (by omega) (by omega))
 have HU := ak hu
 have HCL := ak (wq b l)
 clear hr hk hrt hC hp hsum hrk hu
 go_enter Try.func52, Try.ntmps52
 go_wp2_with (first
  | (refine aE rfl 57 (.tmp 0) rfl _ rfl ?_; intro gX W1 J aa I; have bQ := ge ae J; have ai := ak (ae.out.trans (I.mono ae.out.size)); have ah := ak (aa); clear J aa I ae)
  | (refine aw (some 4) rfl rfl 57 rfl a9 bP ?_; intro gZ W2 J aa I; have bN := ge ai J; have aG := ne ah J; have av := mv I ai; have au := mv I ah; have bY := ak (aa); clear J aa I ai ah)
  | ((with_reducible refine ax (N := 12) rfl ?_); go_loud (refine az rfl 57 (.tmp 2) rfl gX rfl _ _ _ au.out Try.underlying57 rfl 68 (by kernel_rfl) (ag _ _ _ _ _ HL.out) ?_))
  | (go_at_call 48; go_loud (refine (dH b HK.out _ _ ⟨A, c, A', c', rfl, HR.out.below av.out⟩).mono ?_; rintro e W3 ⟨rfl, I⟩; rw [HRT.out]; have aD := mv I av; have aA := mv I au; have bL := mv I bY; clear I av au bY))
  | ((with_reducible refine ax (N := 16) rfl ?_); go_loud (refine az rfl 57 (.tmp 2) rfl gX rfl _ _ _ aA.out Try.underlying57 rfl 68 (by kernel_rfl) (ag _ _ _ _ _ HL.out) ?_))
  | (go_at_call 89; go_loud (refine (HCP.out _ _ ⟨A, c, A', c', rfl, HR.out.below aD.out⟩).mono ?_; rintro e W4 ⟨v5, rfl, uj, I⟩; obtain ⟨um, vf, va, rfl, lQ, lV⟩ := uj; obtain ⟨Af, cf, rfl⟩ := Kd.R_slice lQ; obtain ⟨Aa, ca, rfl⟩ := Kd.R_slice lV; have HSZ := ak aD.out.size; have aY := mv I aD; have aV := mv I aA; have a8 := mv I bL; have ch := ak (lQ); have dE := ak (lV); have cx := ak (I.size); clear um lQ lV I aD aA bL))
  | (refine aN rfl 57 (.tmp 2) (.tmp 17) rfl gX (aZ b.addr b.aff b.slots (.slice Af b.free.length cf) (.slice Aa b.attrs.length ca)) rfl rfl 57 _ aV.out 68 (by kernel_rfl) (ag _ _ _ _ _ HL.out) (ag _ _ _ _ _ HL.out) (b4 _ _ _ _ _ rfl rfl) ?_; intro W5 aa J; have bf := gb aY bQ J; have bb := ak (aa); have bu := gm a8 aG J; have cb := gr ch aV J; have de := gr dE aV J; have cJ := ak (Nat.le_trans cx.out J.size); clear aa J aY aV a8 ch dE cx))
 obtain ⟨b1, cy⟩ : ∃ b1, b1 = W3.heap.size := ⟨_, rfl⟩
 rw [← cy] at cb de cJ HSZ
 have cn := ak (show w.heap.size ≤ b1 from HSZ.out)
 clear cy HSZ
 go_loopw [7, 9, 10, 11, 20, 24] (fun q _ _ _ i _ W => ∃ k : Nat, k ≤ l.length ∧ i = .int .i64 k ∧ Aside0 (OC W b1 gX (relL b (l.take k)).1) ∧ Aside0 (Kd.R (Kd.int .u32) 46 W w.heap.size (fun _ => True) q (relL b (l.take k)).2) ∧ Aside0 (aH W gZ a9 57) ∧ Aside0 (b1 ≤ W.heap.size) ∧ Aside0 (Below w.heap.size w W)) (fun _ _ _ _ i _ _ => l.length - (intOf i).toNat)
 case atStart => exact ⟨0, by omega, rfl, ⟨HL.out, _, _, bb.out, cb.out, de.out⟩, ⟨Kd.R_nil _ _ _ _ _⟩, bu, cJ, bf⟩
 case round =>
  clear bf bb bu cb de cJ
  obtain ⟨k, hk, rfl, aJ, bF, br, aX, ae⟩ := hrel
  obtain ⟨W, rfl⟩ : ∃ W : World, W = wr := ⟨_, rfl⟩
  have hro := HRK.out k hk
  by_cases hkn : k < l.length
  ·have hkb : decide ((k : Int) < (l.length : Int)) = true := by simp; omega
   obtain ⟨ad, eA, hx⟩ := Kd.at_int (Kd.C_below HC.out ae.out) k (by omega) (by omega)
   cases eA
   rw [Int.toNat_natCast] at hx
   have p1 : ((k : Int) < (l.length : Int)) = True := eq_true (by omega)
   have hrd : rd l k = l[k] := by simp [rd, List.getD, hkn]
   have fF := HU.out _ (List.getElem_mem hkn)
   obtain ⟨x, hxx⟩ : ∃ x, l[k] = x := ⟨_, rfl⟩
   rw [hxx] at hrd fF
   rw [hrd] at hx
   have hsu := yU b l k hkn x hxx
   obtain ⟨rs, hrs⟩ : ∃ rs, rs = relL b (l.take k) := ⟨_, rfl⟩
   rw [← hrs] at hro hsu aJ bF
   have hol := hro.ol
   have hfl := hro.fl
   have hbk : BkOk rs.1 := ⟨by rw [hro.addr]; exact HK.out.a0, by rw [hro.addr]; exact HK.out.a1, hro.s8, hro.f8⟩
   have hpl := fun v w h => tZ rs.1 hbk x fF.1 fF.2 v w h
   have HSU := ak hsu
   have HLM := ak hro.l64
   obtain ⟨bm, oo⟩ := rs
   simp only at hol hfl hpl aJ bF HLM
   obtain ⟨Ao, co, rfl⟩ := Kd.R_slice bF.out
   obtain ⟨A1, c1, A2, c2, AU, mN, kM⟩ := aJ.out.open
   have HOL := ak (show oo.length ≤ 1000 by omega)
   have HFLN := ak (show bm.free.length ≤ 2000 by have := HFL.out; omega)
   have HXX := ak AU
   have jK := ak mN
   have j4 := ak kM
   clear hro AU mN kM hrs hrd hxx hsu hbk hol hfl aJ
   by_cases hpb : bV x = bm.addr
   ·rw [if_pos hpb, decide_eq_true hpb] at hpl
    have hj : (x - bm.addr).toNat < 64 ∧ ((x - bm.addr).toNat : Int) = x - bm.addr := by
     unfold bV at hpb
     omega
    obtain ⟨j, hjq⟩ : ∃ j : Nat, j = (x - bm.addr).toNat := ⟨_, rfl⟩
    rw [← hjq] at hj
    rw [← hj.2] at hpl
    have mW : j < 64 := hj.1
    have pj : ((j : Int) < 64) = True := eq_true (by omega)
    have HPL := ak hpl
    obtain ⟨m, hm⟩ : ∃ m, bm.slots.getD j 0 = m := ⟨_, rfl⟩
    have hhit : gw bm x = (m != 0) := by
     unfold gw
     rw [decide_eq_true hpb, ← hjq, hm, Bool.true_and]
    have HM := ak hm
    have HJ := ak hj.2
    by_cases lG : m = 0
    ·subst lG
     have HEQ := ak (show relL b (l.take (k + 1)) = (bm, oo) by rw [HSU.out]; unfold relF; rw [if_neg (by rw [hhit]; decide)])
     clear hpb hj hpl hjq hm hhit
     go_wp2_with (first
      | ((with_reducible refine ax (N := 25) rfl ?_); go_loud (refine az rfl 57 (.tmp 2) rfl gX rfl _ _ _ HXX.out Try.underlying57 rfl 68 (by kernel_rfl) (ag _ _ _ _ _ HLM.out) ?_))
      | (go_at_call 92; go_loud (refine (HPL.out _ _ ⟨A1, c1, A2, c2, rfl, ⟨HLM.out, (rr jK).1, (rr jK).2, (rr j4).1, (rr j4).2⟩⟩).mono ?_; rintro e W1 ⟨rfl, I⟩; have ah := mv I HXX; have bp := mv I jK; have dp := mv I j4; have cr := mv I bF; have bM := mv I br; have bd := ak (Nat.le_trans aX.out I.size); have ai := ak (ae.out.trans (I.mono ae.out.size)); have Lq := (show W1.cell? ⟨gX, 2 + j, none⟩ = some (.int .u8 0) from by have h_ := ah.out.slot HLM.out j mW; rwa [HM.out] at h_); have Lr := ah.out.frozen (2 + j); clear I HXX jK j4 bF br aX ae)))
     go_roundw
     case rel => exact ⟨k + 1, by omega, by go_num, ⟨by rw [HEQ.out]; exact ⟨HLM.out, _, _, ah.out, bp.out, dp.out⟩⟩, ⟨by rw [HEQ.out]; exact cr.out⟩, bM, bd, ai⟩
     case measure => simp [intOf]; omega
    ·have uk : (m == 0) = false := by rw [beq_eq_false_iff_ne]; exact lG
     have HEQ := ak (show relL b (l.take (k + 1)) = (⟨bm.addr, bm.aff, bm.slots.set j 0, bm.free ++ [(j : Int)], bm.attrs⟩, oo ++ [x]) by
      rw [HSU.out]
      unfold relF
      rw [if_pos (by rw [hhit]; simpa using lG)]
      rw [← hjq, hj.2])
     clear hpb hj hpl hjq hm hhit lG
     obtain ⟨fr, hfr⟩ : ∃ fr, fr = bm.free ++ [(j : Int)] := ⟨_, rfl⟩
     obtain ⟨o1, fw⟩ : ∃ o1, o1 = oo ++ [x] := ⟨_, rfl⟩
     rw [← hfr, ← fw] at HEQ
     have HFR := ak hfr
     have kA := ak fw
     clear hfr fw
     go_wp2_with (first
      | ((with_reducible refine ax (N := 25) rfl ?_); go_loud (refine az rfl 57 (.tmp 2) rfl gX rfl _ _ _ HXX.out Try.underlying57 rfl 68 (by kernel_rfl) (ag _ _ _ _ _ HLM.out) ?_))
      | (go_at_call 92; go_loud (refine (HPL.out _ _ ⟨A1, c1, A2, c2, rfl, ⟨HLM.out, (rr jK).1, (rr jK).2, (rr j4).1, (rr j4).2⟩⟩).mono ?_; rintro e W1 ⟨rfl, I⟩; have ah := mv I HXX; have bp := mv I jK; have dp := mv I j4; have cr := mv I bF; have bM := mv I br; have bd := ak (Nat.le_trans aX.out I.size); have ai := ak (ae.out.trans (I.mono ae.out.size)); have Lq := (show W1.cell? ⟨gX, 2 + j, none⟩ = some (.int .u8 m) from by have h_ := ah.out.slot HLM.out j mW; rwa [HM.out] at h_); have Lr := ah.out.frozen (2 + j); clear I HXX jK j4 bF br aX ae))
      | ((with_reducible refine ax (N := 42) rfl ?_); go_loud (generalize bR : W1.setCell ⟨gX, 2 + j, none⟩ (.int .u8 0) = W2; have J : W1.grownBy W2 (some gX) := (by rw [← bR]; exact bO _ _ _ _); have au := ak (ah.out.set (2 + j) (.int .u8 0)); have bT := gr bp ah J; have dF := gr dp ah J; have cC := gr cr ah J; have bY := gm bM aG J; have bC := ak (Nat.le_trans bd.out J.size); have av := gb ai bQ J; rw [bR] at au; clear bR J ah bp dp cr bM bd ai Lq Lr; rw [qz _ _ _ _ _ HLM.out j mW] at au; have Ec := ak (show (bm.slots.set j 0).length = 64 by rw [List.length_set]; exact HLM.out); have Hm := au.out.cell 66 _ (fP _ _ _ _ _ Ec.out)))
      | ((with_reducible refine cz (b := .append) (xs := #[.tmp 43, .tmp 46]) rfl ?_); at_builtin; go_loud (refine Kd.R_append (Kd.int .u8) (w0 := W2) b1 rfl (.tmp 43) (.tmp 46) 48 5 (.int .u8 0) 1 rfl Try.underlying48 yz rfl (by decide) (by omega) _ bm.free (j : Int) [.int .u8 (j : Int)] (fun _ => True) (fun _ => False) rfl rfl rfl (fun _ hk => hk.elim) (fun _ _ => trivial) bT.out (Below.refl _ _) bC.out (by have := HFLN.out; omega) ?_; intro v_ W3 aW I J fm; rw [← HFR.out] at aW; have aA := ak (au.out.grown J (au.out.ne_row bT.out (by decide))); have cj := ak (aW); have dQ := ak (Kd.R_over dF.out bT.out (by decide) J); have eT := ak (Kd.R_over cC.out bT.out (by decide) J); have bL := ak (bY.out.grown J (bY.out.ne_row bT.out (by decide))); have bU := ak (Nat.le_trans bC.out J.size); have aD := ak (av.out.trans (I.mono cn.out)); obtain ⟨AF, cF, rfl⟩ := Kd.R_slice aW; have LB := aA.out.cell 66 _ (fP _ _ _ _ _ Ec.out); have MM := aA.out.frozen 66; clear aW I J fm au bT dF cC bY bC av Hm))
      | ((with_reducible refine cz (b := .append) (xs := #[.tmp 49, .tmp 51]) rfl ?_); at_builtin; go_loud (generalize bR : W3.setCell ⟨gX, 66, none⟩ (.slice AF fr.length cF) = W4; have lE : W3.heap.size = W4.heap.size := (by rw [← bR]; simp [World.setCell]); have J : W3.grownBy W4 (some gX) := (by rw [← bR]; exact bO _ _ _ _); have aV := ak (aA.out.set 66 (.slice AF fr.length cF)); have ch := gr cj aA J; have dE := gr dQ aA J; have l7 := gr eT aA J; have a8 := gm bL aG J; have cx := ak (Nat.le_trans bU.out J.size); have aY := gb aD bQ J; rw [bR] at aV; clear bR J aA cj dQ eT bL bU aD LB MM; rw [kS _ _ _ _ _ Ec.out] at aV; refine Kd.R_append (Kd.int .u32) (w0 := w) w.heap.size rfl (.tmp 49) (.tmp 51) 77 46 (.int .u32 0) 4 rfl Try.underlying77 iL rfl (by decide) (by omega) _ oo x [.int .u32 x] (fun _ => True) (fun _ => False) rfl (congrArg (fun n_ => Value.slice (some ⟨n_, 0, none⟩) 1 1) lE) rfl (fun _ hk => hk.elim) (fun _ _ => trivial) l7.out aY.out aY.out.size (by have := HOL.out; omega) ?_; intro v_ W5 aW I J fm; rw [← kA.out] at aW; have bb := ak (aV.out.grown J (aV.out.ne_row l7.out (by decide))); have cb := ak (Kd.R_over ch.out l7.out (by decide) J); have de := ak (Kd.R_over dE.out l7.out (by decide) J); have Ea := ak (aW); have bu := ak (a8.out.grown J (a8.out.ne_row l7.out (by decide))); have cJ := ak (Nat.le_trans cx.out J.size); have bf := ak (I); obtain ⟨AO, cO, rfl⟩ := Kd.R_slice aW; clear aW I J fm lE aV ch dE l7 a8 cx aY)))
     go_roundw
     case rel => exact ⟨k + 1, by omega, by go_num, ⟨by rw [HEQ.out]; exact ⟨Ec.out, _, _, bb.out, cb.out, de.out⟩⟩, ⟨by rw [HEQ.out]; exact Ea.out⟩, bu, cJ, bf⟩
     case measure => simp [intOf]; omega
   ·rw [if_neg hpb, decide_eq_false hpb] at hpl
    have HPL := ak hpl
    have HEQ := ak (show relL b (l.take (k + 1)) = (bm, oo) by
     rw [HSU.out]
     unfold relF
     rw [if_neg (by unfold gw; rw [decide_eq_false hpb]; simp)])
    clear hpb hpl
    go_wp2_with (first
     | ((with_reducible refine ax (N := 25) rfl ?_); go_loud (refine az rfl 57 (.tmp 2) rfl gX rfl _ _ _ HXX.out Try.underlying57 rfl 68 (by kernel_rfl) (ag _ _ _ _ _ HLM.out) ?_))
     | (go_at_call 92; go_loud (refine (HPL.out _ _ ⟨A1, c1, A2, c2, rfl, ⟨HLM.out, (rr jK).1, (rr jK).2, (rr j4).1, (rr j4).2⟩⟩).mono ?_; rintro e W1 ⟨rfl, I⟩; have ah := mv I HXX; have bp := mv I jK; have dp := mv I j4; have cr := mv I bF; have bM := mv I br; have bd := ak (Nat.le_trans aX.out I.size); have ai := ak (ae.out.trans (I.mono ae.out.size)); clear I HXX jK j4 bF br aX ae)))
    go_roundw
    case rel => exact ⟨k + 1, by omega, by go_num, ⟨by rw [HEQ.out]; exact ⟨HLM.out, _, _, ah.out, bp.out, dp.out⟩⟩, ⟨by rw [HEQ.out]; exact cr.out⟩, bM, bd, ai⟩
    case measure => simp [intOf]; omega
  ·obtain rfl : k = l.length := by omega
   have hkb : decide ((l.length : Int) < (l.length : Int)) = false := by simp
   rw [List.take_of_length_le (Nat.le_refl l.length)] at hro aJ bF
   have HBR := ak (show lC b l = kB (relL b l).1 from rfl)
   obtain ⟨rs, hrs⟩ : ∃ rs, rs = relL b l := ⟨_, rfl⟩
   have HRS := ak hrs
   rw [← hrs] at hro aJ bF HBR
   obtain ⟨bm, oo⟩ := rs
   simp only at aJ bF HBR
   have HCM := ak (fun v w base lU h => CL bm hro.s8 (by rw [hro.attrs]; exact HAL.out) (fun s hs => by rw [hro.attrs]; exact hro.le s hs) v w base lU h)
   have HLM := ak hro.l64
   simp only at HLM
   obtain ⟨Ao, co, rfl⟩ := Kd.R_slice bF.out
   obtain ⟨A1, c1, A2, c2, AU, mN, kM⟩ := aJ.out.open
   have HXX := ak AU
   have jK := ak mN
   have j4 := ak kM
   clear hro AU mN kM hrs aJ
   go_wp2_with (first
    | ((with_reducible refine ax (N := 54) rfl ?_); go_loud (refine az rfl 57 (.tmp 2) rfl gX rfl _ _ _ HXX.out Try.underlying57 rfl 68 (by kernel_rfl) (ag _ _ _ _ _ HLM.out) ?_))
    | (go_at_call 95; go_loud (refine (HCM.out _ _ b1 aX.out ⟨HLM.out, _, _, rfl, jK.out, j4.out⟩).mono ?_; rintro e W1 ⟨v9, rfl, fC, I⟩; obtain ⟨zg, qE, qF, rfl, fb, ep⟩ := fC; obtain ⟨A8, c8, rfl⟩ := Kd.R_slice fb; obtain ⟨A9, c9, rfl⟩ := Kd.R_slice ep; have uK := ak zg; have ah := mv I HXX; have cr := mv I bF; have bM := mv I br; have bd := ak (Nat.le_trans aX.out I.size); have ai := ak (ae.out.trans (I.mono ae.out.size)); have cZ := ak (fb); have Me := ak (ep); clear zg fb ep I HXX bF br aX ae))
    | (refine aN rfl 57 (.tmp 4) (.tmp 55) rfl gZ (aZ (kB bm).addr (kB bm).aff (kB bm).slots (.slice A8 (kB bm).free.length c8) (.slice A9 (kB bm).attrs.length c9)) rfl rfl 57 _ bM.out 68 (by kernel_rfl) (ag _ _ _ _ _ uK.out) rfl (b4 _ _ _ _ _ rfl rfl) ?_; intro W2 aa J; have au := gn ah aG J; have cC := gr cr bM J; have bY := ak (aa); have bC := ak (Nat.le_trans bd.out J.size); have av := gb ai bN J; have dd := gr cZ bM J; have Pv := gr Me bM J; clear aa J ah cr bM bd ai cZ Me))
   refine bodyPost_ret (ik rfl _ _ gZ 57 _ (0, 0) _ rfl bY.out Try.underlying57 rfl (by simp only [List.size_toArray]; exact cg _ (ag _ _ _ _ _ uK.out))) rfl ⟨_, _, rfl, ?_, by rw [← HRS.out]; exact cC.out, av.out⟩
   rw [HBR.out]
   exact ⟨uK.out, _, _, rfl, Kd.R_lower dd.out cn.out, Kd.R_lower Pv.out cn.out⟩
theorem Cx (b : Bk) (hk : BkOk b) (l : List Int) (hu : ∀ x ∈ l, 0 ≤ x ∧ x < 4294967296) (hll : l.length ≤ 1000) (Al : Option Addr) (cl : Nat) (v : Value) (w : World) (h : fS w v b) (hC : Kd.C (Kd.int .u32) w Al l.length l) :
  Calls Try.prog 52 #[v, .slice Al l.length cl] w fun e w' => ∃ v' vo, e = .returned (.tuple #[v', vo, .int .i64 (if dm b = true then 0 else 1)]) ∧ ea w' w.heap.size v' (if dm b = true then lC b l else jP) ∧ Kd.R (Kd.int .u32) 46 w' w.heap.size (fun _ => True) vo (if dm b = true then (relL b l).2 else []) ∧ Below w.heap.size w w' := by
 cases hrt : dm b with
 | false => exact DE b hk l hu hll Al cl hrt v w h hC
 | true => exact oC b hk l hu hll Al cl hrt v w h hC
end Go.Proofs.Ytemhalnhbgkbcaa.V
end

section
namespace Go.Proofs.Ytemhalnhbgkbcaa.V
theorem nv {b : Bk} (hk : BkOk b) (hf : bV b.addr = b.addr) (p : At → Bool) : ∀ x ∈ dk b p 64, 0 ≤ x ∧ x < 4294967296 := by
 intro x hx
 unfold dk at hx
 obtain ⟨i, hi, rfl⟩ := List.mem_map.1 hx
 have h1 := List.mem_range.1 (List.mem_filter.1 hi).1
 have h2 := hk.a0
 have h3 := hk.a1
 unfold bV at hf
 omega
def kp.T3 : Bool × List (List Nat × List Nat) := (true, [([], []), ([], []), ([], []), ([1, 2], [1, 2]), ([0, 3, 3], [0, 3]), ([4], [4]), ([4], [4]), ([4], [4]), ([5, 4, 0, 1, 2, 3, 4, 5, 6, 7], [5]), ([6, 8, 0, 1, 2, 3, 4, 5, 6, 7, 8], [6]), ([7, 9, 0, 1, 2, 3, 4, 5, 6, 7, 8, 9], [7])])
def kp.B3 : List Nat := [0, 0, 0, 6, 15, 31, 31, 31, 255, 511, 1023]
theorem kp.tab3 : dC .any (opsOf Try.f53 3) = kp.T3 := by kernel_rfl
theorem kp.bits3 : cU kp.T3.2 kp.B3 = true := by kernel_rfl
set_option maxHeartbeats 16000000 in
set_option maxRecDepth 100000 in
theorem zB (b : Bk) (hk : BkOk b) (id : ByteArray) (hrt : dm b = true) (v : Value) (w : World) (h : fS w v b) :
  Calls Try.prog 53 #[v, .string id] w fun e w' => ∃ v' vo, e = .returned (.tuple #[v', vo, .int .i64 0]) ∧ ea w' w.heap.size v' (lC b (dk b (fun a => a.f0.toList == id.toList) 64)) ∧ Kd.R (Kd.int .u32) 46 w' w.heap.size (fun _ => True) vo (relL b (dk b (fun a => a.f0.toList == id.toList) 64)).2 ∧ Below w.heap.size w w' := by
 obtain ⟨A, c, A', c', rfl, hr⟩ := h
 have HL := ak hr.l64
 have HR := ak hr
 have HK := ak hk
 have HRT := ak hrt
 have ae := ak (Below.refl w.heap.size w)
 have HP := ak (iw hrt)
 clear hr hk hrt
 go_enter Try.func53, Try.ntmps53
 go_wp2_with (first
  | (refine aE rfl 57 (.tmp 0) rfl _ rfl ?_; intro gX W1 J aa I; have bQ := ge ae J; have ai := ak (ae.out.trans (I.mono ae.out.size)); have ah := ak (aa); clear J aa I ae)
  | ((with_reducible refine ax (N := 4) rfl ?_); go_loud (obtain ⟨gI, J⟩ : ∃ g_, g_ = W1.heap.size := ⟨_, rfl⟩; rw [← J]; generalize bR : W1.alloc (.cells #[.string id] 9) = W2; have I : Below W1.heap.size W1 W2 := (by rw [← bR]; exact al (Below.refl _ _) _); have aa : aH W2 gI [.string id] 9 := (by rw [← bR, J]; exact heap_alloc_new W1 _); have fL : W1.heap.size ≤ gI := Nat.le_of_eq J.symm; have vx := ge ai fL; have l5 := ne ah fL; have av := mv I ai; have au := mv I ah; have we := ak (aa); clear bR I aa fL J ai ah; refine aw (some 4) rfl rfl 57 rfl a9 bP ?_; intro gZ W3 J aa I; have bN := ge av J; have aG := ne au J; have GX := ne we J; have aD := mv I av; have aA := mv I au; have uM := mv I we; have bL := ak (aa); clear J aa I av au we))
  | ((with_reducible refine ax (N := 7) rfl ?_); go_loud (refine az rfl 57 (.tmp 2) rfl gX rfl _ _ _ aA.out Try.underlying57 rfl 68 (by kernel_rfl) (ag _ _ _ _ _ HL.out) ?_))
  | (go_at_call 48; go_loud (refine (dH b HK.out _ _ ⟨A, c, A', c', rfl, HR.out.below aD.out⟩).mono ?_; rintro e W4 ⟨rfl, I⟩; rw [HRT.out]; have aY := mv I aD; have aV := mv I aA; have uL := mv I uM; have a8 := mv I bL; clear I aD aA uM bL)))
 have aj : Below W4.heap.size W4 W4.drew := bo (Below.refl _ _)
 have bf := mv aj aY; have bb := mv aj aV; have jO := mv aj uL; have bu := mv aj a8
 clear aj aY aV uL a8
 have HLL := ak (cg (aZ b.addr b.aff b.slots (.slice A b.free.length c) (.slice A' b.attrs.length c')) (ag _ _ _ _ _ HL.out))
 refine cW (n := 11) (S := fun w' => aH w' gX (aZ b.addr b.aff b.slots (.slice A b.free.length c) (.slice A' b.attrs.length c')) 57) (ds := []) #[false, false, false, false, false, false, false, false, false, false, false] (by kernel_rfl) rfl rfl bb.out (fun hHeld => ?_); refine bK kp.tab3 kp.bits3 (fun ab bj => ?_)
 refine tk 0 ab.out bj.out hHeld ?_ (hv := by exact fun _ aU => aI 57 (.tmp 2) rfl gX rfl _ _ _ aU Try.underlying57 rfl HLL.out)
 refine tk 1 ab.out bj.out hHeld ?_ (hv := by exact fun _ aU => aI 57 (.tmp 2) rfl gX rfl _ _ _ aU Try.underlying57 rfl HLL.out)
 refine pu 2 ab.out ?_
 refine on 3 ab.out (fun K hK => ?_)
 refine gs Try.func96 #[.agg (aZ b.addr b.aff b.slots (.slice A b.free.length c) (.slice A' b.attrs.length c')).toArray, .func (.func 97) #[] #[.pointer (some ⟨gI, 0, none⟩)]] (Cr b HK.out HP.out _ _ ⟨A, c, A', c', rfl, HR.out.below bf.out⟩ id gI jO.out) ?_
 rintro e V1 ⟨vo, rfl, aW, I⟩
 refine ⟨_, rfl, ?_⟩
 obtain ⟨U, hU⟩ : ∃ U, U = dk b (fun a => a.f0.toList == id.toList) 64 := ⟨_, rfl⟩; rw [← hU] at aW; have HU := ak hU; obtain ⟨Au, cu, rfl⟩ := Kd.R_slice aW; have bG := mv I bf; have bh := mv I bb; have kL := mv I jO; have bS := mv I bu; have dW := ak (aW); clear hU aW I bf bb jO bu
 refine kn hK bh.out (fun hHeld => ?_)
 clear hK K
 refine on 4 ab.out (fun K hK => ?_)
 refine gs Try.func52 #[.agg (aZ b.addr b.aff b.slots (.slice A b.free.length c) (.slice A' b.attrs.length c')).toArray, .slice Au U.length cu] (oC b HK.out U (by rw [HU.out]; exact nv HK.out HP.out.first _) (by rw [HU.out]; have := fD b (fun a => a.f0.toList == id.toList) 64; omega) Au cu HRT.out _ _ ⟨A, c, A', c', rfl, HR.out.below bG.out⟩ (Kd.R_reads' dW.out).2.2) ?_
 rintro e V2 ⟨v9, vq, rfl, fC, e8, I⟩
 refine ⟨_, rfl, ?_⟩
 obtain ⟨nb, hnb⟩ : ∃ nb, nb = lC b U := ⟨_, rfl⟩; obtain ⟨nq, hnq⟩ : ∃ nq, nq = (relL b U).2 := ⟨_, rfl⟩; rw [← hnb] at fC; rw [← hnq] at e8; have HNB := ak hnb; have HNQ := ak hnq; obtain ⟨zg, qE, qF, rfl, fb, ep⟩ := fC; obtain ⟨A8, c8, rfl⟩ := Kd.R_slice fb; obtain ⟨A9, c9, rfl⟩ := Kd.R_slice ep; obtain ⟨Aq, cq, rfl⟩ := Kd.R_slice e8; have uK := ak zg; have HSZ := ak (show w.heap.size ≤ V1.heap.size from bG.out.size); have dU := mv I bG; have dj := mv I bh; have kx := mv I kL; have dz := mv I bS; have eZ := ak (fb); have je := ak (ep); have mE := ak (e8); clear hnb hnq zg fb ep e8 I bG bh kL bS
 refine kn hK dj.out (fun hHeld => ?_)
 clear hK K
 refine pu 5 ab.out ?_
 refine pu 6 ab.out ?_
 refine pu 7 ab.out ?_
 refine ow 8 ab.out (fun K hK => ?_)
 refine bA (by rfl) rfl 57 (.tmp 4) (.tmp 16) rfl gZ (aZ nb.addr nb.aff nb.slots (.slice A8 nb.free.length c8) (.slice A9 nb.attrs.length c9)) rfl rfl 57 _ dz.out 68 (by kernel_rfl) (ag _ _ _ _ _ uK.out) rfl (b4 _ _ _ _ _ rfl rfl) ?_
 intro V3 aa J; have gM := gb dU bN J; have gK := gn dj aG J; have wb := gx kx dz J; have fH := ak (aa); have kh := gr eZ dz J; have kg := gr je dz J; have pd := gr mE dz J; clear aa J dU dj kx dz eZ je mE
 refine hK.out _ _ gK.out (fun hHeld => ?_)
 clear hK K
 refine pu 9 ab.out ?_
 refine pu 10 ab.out ?_
 refine dn ab.out ?_
 try go_wp2
 refine bodyPost_ret (ik rfl _ _ gZ 57 _ (0, 0) _ rfl fH.out Try.underlying57 rfl (by simp only [List.size_toArray]; exact cg _ (ag _ _ _ _ _ uK.out))) rfl ⟨_, _, rfl, ?_, ?_, gM.out⟩
 ·rw [← HU.out, ← HNB.out]; exact ⟨uK.out, _, _, rfl, Kd.R_lower kh.out HSZ.out, Kd.R_lower kg.out HSZ.out⟩
 ·rw [← HU.out, ← HNQ.out]; exact Kd.R_lower pd.out HSZ.out
def lK.T3 : Bool × List (List Nat × List Nat) := (true, [([], []), ([], []), ([], []), ([1, 2], [1, 2]), ([0, 3, 3], [0, 3]), ([4], [4]), ([4], [4]), ([4], [4]), ([5, 4, 0, 1, 2, 3, 4, 5, 6, 7], [5]), ([6, 8, 0, 1, 2, 3, 4, 5, 6, 7, 8], [6]), ([7, 9, 0, 1, 2, 3, 4, 5, 6, 7, 8, 9], [7])])
def lK.B3 : List Nat := [0, 0, 0, 6, 15, 31, 31, 31, 255, 511, 1023]
theorem lK.tab3 : dC .any (opsOf Try.f54 3) = lK.T3 := by kernel_rfl
theorem lK.bits3 : cU lK.T3.2 lK.B3 = true := by kernel_rfl
set_option maxHeartbeats 16000000 in
set_option maxRecDepth 100000 in
theorem Cy (b : Bk) (hk : BkOk b) (id : ByteArray) (hrt : dm b = true) (v : Value) (w : World) (h : fS w v b) :
  Calls Try.prog 54 #[v, .string id] w fun e w' => ∃ v' vo, e = .returned (.tuple #[v', vo, .int .i64 0]) ∧ ea w' w.heap.size v' (lC b (dk b (fun a => a.f1.toList == id.toList) 64)) ∧ Kd.R (Kd.int .u32) 46 w' w.heap.size (fun _ => True) vo (relL b (dk b (fun a => a.f1.toList == id.toList) 64)).2 ∧ Below w.heap.size w w' := by
 obtain ⟨A, c, A', c', rfl, hr⟩ := h
 have HL := ak hr.l64
 have HR := ak hr
 have HK := ak hk
 have HRT := ak hrt
 have ae := ak (Below.refl w.heap.size w)
 have HP := ak (iw hrt)
 clear hr hk hrt
 go_enter Try.func54, Try.ntmps54
 go_wp2_with (first
  | (refine aE rfl 57 (.tmp 0) rfl _ rfl ?_; intro gX W1 J aa I; have bQ := ge ae J; have ai := ak (ae.out.trans (I.mono ae.out.size)); have ah := ak (aa); clear J aa I ae)
  | ((with_reducible refine ax (N := 4) rfl ?_); go_loud (obtain ⟨gI, J⟩ : ∃ g_, g_ = W1.heap.size := ⟨_, rfl⟩; rw [← J]; generalize bR : W1.alloc (.cells #[.string id] 9) = W2; have I : Below W1.heap.size W1 W2 := (by rw [← bR]; exact al (Below.refl _ _) _); have aa : aH W2 gI [.string id] 9 := (by rw [← bR, J]; exact heap_alloc_new W1 _); have fL : W1.heap.size ≤ gI := Nat.le_of_eq J.symm; have vx := ge ai fL; have l5 := ne ah fL; have av := mv I ai; have au := mv I ah; have we := ak (aa); clear bR I aa fL J ai ah; refine aw (some 4) rfl rfl 57 rfl a9 bP ?_; intro gZ W3 J aa I; have bN := ge av J; have aG := ne au J; have GX := ne we J; have aD := mv I av; have aA := mv I au; have uM := mv I we; have bL := ak (aa); clear J aa I av au we))
  | ((with_reducible refine ax (N := 7) rfl ?_); go_loud (refine az rfl 57 (.tmp 2) rfl gX rfl _ _ _ aA.out Try.underlying57 rfl 68 (by kernel_rfl) (ag _ _ _ _ _ HL.out) ?_))
  | (go_at_call 48; go_loud (refine (dH b HK.out _ _ ⟨A, c, A', c', rfl, HR.out.below aD.out⟩).mono ?_; rintro e W4 ⟨rfl, I⟩; rw [HRT.out]; have aY := mv I aD; have aV := mv I aA; have uL := mv I uM; have a8 := mv I bL; clear I aD aA uM bL)))
 have aj : Below W4.heap.size W4 W4.drew := bo (Below.refl _ _)
 have bf := mv aj aY; have bb := mv aj aV; have jO := mv aj uL; have bu := mv aj a8
 clear aj aY aV uL a8
 have HLL := ak (cg (aZ b.addr b.aff b.slots (.slice A b.free.length c) (.slice A' b.attrs.length c')) (ag _ _ _ _ _ HL.out))
 refine cW (n := 11) (S := fun w' => aH w' gX (aZ b.addr b.aff b.slots (.slice A b.free.length c) (.slice A' b.attrs.length c')) 57) (ds := []) #[false, false, false, false, false, false, false, false, false, false, false] (by kernel_rfl) rfl rfl bb.out (fun hHeld => ?_); refine bK lK.tab3 lK.bits3 (fun ab bj => ?_)
 refine tk 0 ab.out bj.out hHeld ?_ (hv := by exact fun _ aU => aI 57 (.tmp 2) rfl gX rfl _ _ _ aU Try.underlying57 rfl HLL.out)
 refine tk 1 ab.out bj.out hHeld ?_ (hv := by exact fun _ aU => aI 57 (.tmp 2) rfl gX rfl _ _ _ aU Try.underlying57 rfl HLL.out)
 refine pu 2 ab.out ?_
 refine on 3 ab.out (fun K hK => ?_)
 refine gs Try.func96 #[.agg (aZ b.addr b.aff b.slots (.slice A b.free.length c) (.slice A' b.attrs.length c')).toArray, .func (.func 98) #[] #[.pointer (some ⟨gI, 0, none⟩)]] (Es b HK.out HP.out _ _ ⟨A, c, A', c', rfl, HR.out.below bf.out⟩ id gI jO.out) ?_
 rintro e V1 ⟨vo, rfl, aW, I⟩
 refine ⟨_, rfl, ?_⟩
 obtain ⟨U, hU⟩ : ∃ U, U = dk b (fun a => a.f1.toList == id.toList) 64 := ⟨_, rfl⟩; rw [← hU] at aW; have HU := ak hU; obtain ⟨Au, cu, rfl⟩ := Kd.R_slice aW; have bG := mv I bf; have bh := mv I bb; have kL := mv I jO; have bS := mv I bu; have dW := ak (aW); clear hU aW I bf bb jO bu
 refine kn hK bh.out (fun hHeld => ?_)
 clear hK K
 refine on 4 ab.out (fun K hK => ?_)
 refine gs Try.func52 #[.agg (aZ b.addr b.aff b.slots (.slice A b.free.length c) (.slice A' b.attrs.length c')).toArray, .slice Au U.length cu] (oC b HK.out U (by rw [HU.out]; exact nv HK.out HP.out.first _) (by rw [HU.out]; have := fD b (fun a => a.f1.toList == id.toList) 64; omega) Au cu HRT.out _ _ ⟨A, c, A', c', rfl, HR.out.below bG.out⟩ (Kd.R_reads' dW.out).2.2) ?_
 rintro e V2 ⟨v9, vq, rfl, fC, e8, I⟩
 refine ⟨_, rfl, ?_⟩
 obtain ⟨nb, hnb⟩ : ∃ nb, nb = lC b U := ⟨_, rfl⟩; obtain ⟨nq, hnq⟩ : ∃ nq, nq = (relL b U).2 := ⟨_, rfl⟩; rw [← hnb] at fC; rw [← hnq] at e8; have HNB := ak hnb; have HNQ := ak hnq; obtain ⟨zg, qE, qF, rfl, fb, ep⟩ := fC; obtain ⟨A8, c8, rfl⟩ := Kd.R_slice fb; obtain ⟨A9, c9, rfl⟩ := Kd.R_slice ep; obtain ⟨Aq, cq, rfl⟩ := Kd.R_slice e8; have uK := ak zg; have HSZ := ak (show w.heap.size ≤ V1.heap.size from bG.out.size); have dU := mv I bG; have dj := mv I bh; have kx := mv I kL; have dz := mv I bS; have eZ := ak (fb); have je := ak (ep); have mE := ak (e8); clear hnb hnq zg fb ep e8 I bG bh kL bS
 refine kn hK dj.out (fun hHeld => ?_)
 clear hK K
 refine pu 5 ab.out ?_
 refine pu 6 ab.out ?_
 refine pu 7 ab.out ?_
 refine ow 8 ab.out (fun K hK => ?_)
 refine bA (by rfl) rfl 57 (.tmp 4) (.tmp 16) rfl gZ (aZ nb.addr nb.aff nb.slots (.slice A8 nb.free.length c8) (.slice A9 nb.attrs.length c9)) rfl rfl 57 _ dz.out 68 (by kernel_rfl) (ag _ _ _ _ _ uK.out) rfl (b4 _ _ _ _ _ rfl rfl) ?_
 intro V3 aa J; have gM := gb dU bN J; have gK := gn dj aG J; have wb := gx kx dz J; have fH := ak (aa); have kh := gr eZ dz J; have kg := gr je dz J; have pd := gr mE dz J; clear aa J dU dj kx dz eZ je mE
 refine hK.out _ _ gK.out (fun hHeld => ?_)
 clear hK K
 refine pu 9 ab.out ?_
 refine pu 10 ab.out ?_
 refine dn ab.out ?_
 try go_wp2
 refine bodyPost_ret (ik rfl _ _ gZ 57 _ (0, 0) _ rfl fH.out Try.underlying57 rfl (by simp only [List.size_toArray]; exact cg _ (ag _ _ _ _ _ uK.out))) rfl ⟨_, _, rfl, ?_, ?_, gM.out⟩
 ·rw [← HU.out, ← HNB.out]; exact ⟨uK.out, _, _, rfl, Kd.R_lower kh.out HSZ.out, Kd.R_lower kg.out HSZ.out⟩
 ·rw [← HU.out, ← HNQ.out]; exact Kd.R_lower pd.out HSZ.out
end Go.Proofs.Ytemhalnhbgkbcaa.V
end

section
namespace Go.Proofs.Ytemhalnhbgkbcaa.V
attribute [local go_sem] ez ew fa e9 ec eb ey ev
def dy.l0 : Nat → List Int → List Int → Int → Int → Option (Bool)
 | 0, _, _, _, _ => none
 | k + 1, x0, x1, yS, kW => if kW < yS then (if 0 ≤ kW then (if kW < (x0.length : Int) then (if kW < (x1.length : Int) then (if (rd x0 kW) = (rd x1 kW) then (dy.l0 k x0 x1 yS (wrap64 (kW + 1))) else (some false)) else (none)) else (none)) else (none)) else (some true)
def dy.f (k : Nat) (l0 : List Int) (l1 : List Int) : Option (Bool) := if (l0.length : Int) = (l1.length : Int) then (dy.l0 k l0 l1 (l1.length : Int) 0) else (some false)
set_option maxHeartbeats 8000000 in
set_option maxRecDepth 100000 in
theorem dy.calls (k : Nat) (A0 : Option Addr) (c0 : Nat) (l0 : List Int) (A1 : Option Addr) (c1 : Nat) (l1 : List Int) (r : Bool) (w : World) (qW : Kd.C (Kd.int .u32) w A0 l0.length l0) (lT : l0.length ≤ c0) (tH : Kd.C (Kd.int .u32) w A1 l1.length l1) (uq : l1.length ≤ c1) (h : dy.f k l0 l1 = some r) :
  Calls Try.prog 61 #[.slice A0 l0.length c0, .slice A1 l1.length c1] w fun e w' => e = .returned (.bool r) ∧ Drawn0 w w' := by
 have rv := ak qW
 have Jq := ak lT
 clear qW lT
 have mu := ak tH
 have Dt := ak uq
 clear tH uq
 have H : (if (l0.length : Int) = (l1.length : Int) then (dy.l0 k l0 l1 (l1.length : Int) 0) else (some false)) = some r := h
 clear h
 by_cases c3 : (l0.length : Int) = (l1.length : Int)
 ·rw [if_pos c3] at H
  have nB : ((l0.length : Int) == (l1.length : Int)) = true := beq_iff_eq.mpr c3
  have BF : ((l0.length : Int) != (l1.length : Int)) = false := bne_eq_false_iff_eq.mpr c3
  have BE : (l0.length == l1.length) = true := by first | simpa using c3 | (simp at c3 ⊢; omega)
  clear c3
  have H' := ak H
  clear H
  go_enter Try.func61, Try.ntmps61
  go_wp2
  repeat (go_quiet (fail); try go_wp2)
  go_loopg [13] k (fun kq Ep w' => ∃ (bg : Int), Ep = .int .i64 bg ∧ Aside0 (dy.l0 kq l0 l1 (l1.length : Int) bg = some r) ∧ Aside0 (kq ≤ k) ∧ Drawn0 w w')
  case atStart => exact ⟨(0), (by first | rfl | (simp; done) | (simp [*]; done)), H', ⟨Nat.le_refl _⟩, by repeat (first | exact Drawn0.refl _ | apply Drawn0.step)⟩
  case round =>
   clear H'
   obtain ⟨bg, rfl, HA, du, ⟨m1, rfl⟩⟩ := hrel
   cases gk with
   | zero => exact absurd HA.out (by simp [dy.l0])
   | succ k1 =>
    have H := HA.out
    clear HA
    simp only [dy.l0] at H
    by_cases c4 : bg < (l1.length : Int)
    ·rw [if_pos c4] at H
     have uw : decide (bg < (l1.length : Int)) = true := decide_eq_true c4
     clear c4
     by_cases c5 : 0 ≤ bg
     ·rw [if_pos c5] at H
      have vX : decide (0 ≤ bg) = true := decide_eq_true c5
      clear c5
      by_cases c6 : bg < (l0.length : Int)
      ·rw [if_pos c6] at H
       have nA : decide (bg < (l0.length : Int)) = true := decide_eq_true c6
       clear c6
       by_cases c7 : bg < (l1.length : Int)
       ·rw [if_pos c7] at H
        have qv : decide (bg < (l1.length : Int)) = true := decide_eq_true c7
        clear c7
        by_cases c8 : (rd l0 bg) = (rd l1 bg)
        ·rw [if_pos c8] at H
         have qu : ((rd l0 bg) == (rd l1 bg)) = true := beq_iff_eq.mpr c8
         have BA : ((rd l0 bg) != (rd l1 bg)) = false := bne_eq_false_iff_eq.mpr c8
         clear c8
         have H' := ak H
         clear H
         have qi : 0 ≤ (bg : Int) := of_decide_eq_true (by first | (with_reducible assumption) | assumption)
         have qa : bg < (l0.length : Int) := of_decide_eq_true (by first | (with_reducible assumption) | assumption)
         obtain ⟨KK, Bw, E2⟩ := Kd.at_int rv.out bg qi qa
         cases Bw
         replace qi := eq_true qi
         replace qa := eq_true qa
         have qh : 0 ≤ (bg : Int) := of_decide_eq_true (by first | (with_reducible assumption) | assumption)
         have p9 : bg < (l1.length : Int) := of_decide_eq_true (by first | (with_reducible assumption) | assumption)
         obtain ⟨KJ, Bv, E0⟩ := Kd.at_int mu.out bg qh p9
         cases Bv
         replace qh := eq_true qh
         replace p9 := eq_true p9
         go_wp2
         repeat (go_quiet (fail); try go_wp2)
         go_roundg k1
         case measure => have := du.out; omega
         case rel => exact ⟨(wrap64 (bg + 1)), (by first | rfl | (simp; done) | (simp [*]; done)), H', ⟨by have := du.out; omega⟩, by repeat (first | exact Drawn0.refl _ | apply Drawn0.step)⟩
        ·rw [if_neg c8] at H
         have qu : ((rd l0 bg) == (rd l1 bg)) = false := beq_eq_false_iff_ne.mpr c8
         have BA : ((rd l0 bg) != (rd l1 bg)) = true := bne_iff_ne.mpr c8
         obtain rfl := Option.some.inj H
         have qi : 0 ≤ (bg : Int) := of_decide_eq_true (by first | (with_reducible assumption) | assumption)
         have qa : bg < (l0.length : Int) := of_decide_eq_true (by first | (with_reducible assumption) | assumption)
         obtain ⟨KK, Bw, E2⟩ := Kd.at_int rv.out bg qi qa
         cases Bw
         replace qi := eq_true qi
         replace qa := eq_true qa
         have qh : 0 ≤ (bg : Int) := of_decide_eq_true (by first | (with_reducible assumption) | assumption)
         have p9 : bg < (l1.length : Int) := of_decide_eq_true (by first | (with_reducible assumption) | assumption)
         obtain ⟨KJ, Bv, E0⟩ := Kd.at_int mu.out bg qh p9
         cases Bv
         replace qh := eq_true qh
         replace p9 := eq_true p9
         go_wp2
         repeat (go_quiet (fail); try go_wp2)
         go_ret
         exact ⟨by first | rfl | (simp; done) | (simp [*]; done), by repeat (first | exact Drawn0.refl _ | apply Drawn0.step)⟩
       ·rw [if_neg c7] at H
        exact absurd H (by simp)
      ·rw [if_neg c6] at H
       exact absurd H (by simp)
     ·rw [if_neg c5] at H
      exact absurd H (by simp)
    ·rw [if_neg c4] at H
     have uw : decide (bg < (l1.length : Int)) = false := decide_eq_false c4
     clear c4
     obtain rfl := Option.some.inj H
     go_wp2
     repeat (go_quiet (fail); try go_wp2)
     go_ret
     exact ⟨by first | rfl | (simp; done) | (simp [*]; done), by repeat (first | exact Drawn0.refl _ | apply Drawn0.step)⟩
 ·rw [if_neg c3] at H
  have nB : ((l0.length : Int) == (l1.length : Int)) = false := beq_eq_false_iff_ne.mpr c3
  have BF : ((l0.length : Int) != (l1.length : Int)) = true := bne_iff_ne.mpr c3
  have BE : (l0.length == l1.length) = false := by first | simpa using c3 | (simp at c3 ⊢; omega)
  obtain rfl := Option.some.inj H
  go_enter Try.func61, Try.ntmps61
  go_wp2
  repeat (go_quiet (fail); try go_wp2)
  go_ret
  exact ⟨by first | rfl | (simp; done) | (simp [*]; done), by repeat (first | exact Drawn0.refl _ | apply Drawn0.step)⟩
end Go.Proofs.Ytemhalnhbgkbcaa.V
end

section
namespace Go.Proofs.Ytemhalnhbgkbcaa.V
theorem GR (l : List Int) (hl : l.length ≤ 1000) : ∀ (d k i : Nat), i + d = l.length → d < k → dy.l0 k l l (l.length : Int) (i : Int) = some true := by
 intro d
 induction d with
 | zero =>
  intro k i hi hk
  obtain ⟨k, rfl⟩ : ∃ m, k = m + 1 := ⟨k - 1, by omega⟩
  rw [dy.l0, if_neg (by omega)]
 | succ d ih =>
  intro k i hi hk
  obtain ⟨k, rfl⟩ : ∃ m, k = m + 1 := ⟨k - 1, by omega⟩
  rw [dy.l0, if_pos (by omega), if_pos (by omega), if_pos (by omega), if_pos (by omega), if_pos rfl, iB _ (by omega) (by omega), show (i : Int) + 1 = ((i + 1 : Nat) : Int) by omega]
  exact ih k (i + 1) (by omega) (by omega)
theorem Az (s : ByteArray) (hs : s.size ≤ 9223372036854775807) (w : World) : Calls Try.prog 42 #[.string s] w fun e w' => e = .returned (.bool (fW s)) ∧ Below w.heap.size w w' :=
 (ja.calls 9223372036854775808 s _ w (CA s hs _ (Nat.le_refl _))).mono (by
  rintro e w' ⟨rfl, ⟨nd, rfl⟩⟩
  exact ⟨rfl, af (Below.refl _ _) nd⟩)
theorem ui {x0 x1 x2 x3 x4 x5 : Value} : ∀ (j : Nat) (v : Value), [x2, x3][j]? = some v → [x0, x1, x2, x3, x4, x5][2 + j]? = some v := by
 intro j v h
 match j, h with
 | 0, h => exact h
 | 1, h => exact h
 | j + 2, h => simp at h
theorem nw {o : Oper} {a : Act} {w : World} (ty : TypeId) (x : Operand) (ho : o.op = .load ty x) (g off : Nat) (hx : a.eval x = .pointer (some ⟨g, off, none⟩)) (t : Nat) (cs part : List Value) (d : TypeDesc) (hb : aH w g cs t)
  (hp : ∀ j v, part[j]? = some v → cs[off + j]? = some v)
  (hu : Try.prog.underlying ty = some d) (hd : (match d with | .struct _ | .array _ _ => true | _ => false) = true) (hi : (Try.prog.info? ty).map (·.size) = some part.length) :
  (execOp a.eval o).run Try.prog w = .ok (.value (.agg part.toArray)) w := by
 unfold execOp
 simp only [ho, hx, Instr.loadAt, Instr.sureAddr, Sem.run_bind, Sem.run_pure, Result.andThen_ok, pW w g t off ty cs part d hb hp hu (by cases d <;> exact hd) hi]
theorem nD (oo : List Int) (hl : oo.length ≤ 1000) (A A' : Option Addr) (c c' : Nat) (w : World) (h : Kd.C (Kd.int .u32) w A oo.length oo) (hc : oo.length ≤ c) (h' : Kd.C (Kd.int .u32) w A' oo.length oo) (hc' : oo.length ≤ c') :
  Calls Try.prog 61 #[.slice A oo.length c, .slice A' oo.length c'] w fun e w' => e = .returned (.bool true) ∧ Below w.heap.size w w' :=
 (dy.calls (oo.length + 1) A c oo A' c' oo true w h hc h' hc' (by
  unfold dy.f
  rw [if_pos rfl]
  exact GR oo hl oo.length _ 0 (by omega) (by omega))).mono (by
  rintro e w' ⟨rfl, ⟨nd, rfl⟩⟩
  exact ⟨rfl, af (Below.refl _ _) nd⟩)
def o8.T7 : Bool × List (List Nat × List Nat) := (true, [([], []), ([], []), ([1], [1]), ([], []), ([3], [3]), ([4], [4]), ([0, 2, 5, 5], [0, 2, 5]), ([6], [6]), ([7], [7]), ([7], [7]), ([7], [7]), ([], []), ([11, 8, 6, 0, 1, 2, 3, 4, 5, 6, 7, 8, 11], [8, 11]), ([9, 12, 0, 1, 2, 3, 4, 5, 6, 7, 8, 9, 11, 12], [9]), ([10, 13, 0, 1, 2, 3, 4, 5, 6, 7, 8, 9, 10, 11, 12, 13], [10])])
def o8.B7 : List Nat := [0, 0, 2, 0, 8, 24, 63, 127, 255, 255, 255, 0, 2559, 7167, 16383]
theorem o8.tab7 : dC .any (opsOf Try.f47 7) = o8.T7 := by kernel_rfl
theorem o8.bits7 : cU o8.T7.2 o8.B7 = true := by kernel_rfl
def sg.T9 : Bool × List (List Nat × List Nat) := (true, [([], []), ([], []), ([], []), ([2], [2]), ([3], [3]), ([4], [4]), ([5, 4, 4], [4, 5]), ([4, 6], [4, 6]), ([7, 6], [7]), ([8], [8]), ([9, 8], [8, 9]), ([10, 8], [8, 10]), ([8, 11], [8, 11]), ([0, 8, 0], [0]), ([1, 13, 0, 1, 13], [1]), ([12, 14, 0, 1, 2, 3, 4, 5, 6, 7, 8, 9, 10, 11, 12, 13, 14], [12])])
def sg.B9 : List Nat := [0, 0, 0, 4, 12, 28, 60, 124, 252, 508, 1020, 2044, 4092, 509, 8703, 32767]
theorem sg.tab9 : dC .any (opsOf Try.f47 9) = sg.T9 := by kernel_rfl
theorem sg.bits9 : cU sg.T9.2 sg.B9 = true := by kernel_rfl
def qS.T11 : Bool × List (List Nat × List Nat) := (true, [([], []), ([], []), ([], []), ([2], [2]), ([3], [3]), ([4], [4]), ([4], [4]), ([5, 6, 4, 4], [4, 5, 6]), ([4, 7], [4, 7]), ([0, 7, 0], [0]), ([1, 9, 0, 1, 9], [1]), ([8, 10, 0, 1, 2, 3, 4, 5, 6, 7, 8, 9, 10], [8])])
def qS.B11 : List Nat := [0, 0, 0, 4, 12, 28, 28, 124, 252, 253, 767, 2047]
theorem qS.tab11 : dC .any (opsOf Try.f47 11) = qS.T11 := by kernel_rfl
theorem qS.bits11 : cU qS.T11.2 qS.B11 = true := by kernel_rfl
def qR.T15 : Bool × List (List Nat × List Nat) := (true, [([], []), ([], []), ([], []), ([2], [2]), ([3], [3]), ([], []), ([5], [5]), ([0, 1, 4, 6], [0, 1, 4, 6]), ([7], [7]), ([7], [7]), ([7], [7]), ([8, 7, 0, 1, 2, 3, 4, 5, 6, 7, 8, 9, 10], [8]), ([9, 11, 0, 1, 2, 3, 4, 5, 6, 7, 8, 9, 10, 11], [9]), ([10, 12, 0, 1, 2, 3, 4, 5, 6, 7, 8, 9, 10, 11, 12], [10])])
def qR.B15 : List Nat := [0, 0, 0, 4, 12, 0, 32, 127, 255, 255, 255, 2047, 4095, 8191]
theorem qR.tab15 : dC .any (opsOf Try.f47 15) = qR.T15 := by kernel_rfl
theorem qR.bits15 : cU qR.T15.2 qR.B15 = true := by kernel_rfl
def qQ.T19 : Bool × List (List Nat × List Nat) := (true, [([], []), ([], []), ([], []), ([2], [2]), ([3], [3]), ([4], [4]), ([4], [4]), ([5, 6, 4, 4], [4, 5, 6]), ([4, 7], [4, 7]), ([0, 7, 0], [0]), ([1, 9, 0, 1, 9], [1]), ([8, 10, 0, 1, 2, 3, 4, 5, 6, 7, 8, 9, 10], [8])])
def qQ.B19 : List Nat := [0, 0, 0, 4, 12, 28, 28, 124, 252, 253, 767, 2047]
theorem qQ.tab19 : dC .any (opsOf Try.f47 19) = qQ.T19 := by kernel_rfl
theorem qQ.bits19 : cU qQ.T19.2 qQ.B19 = true := by kernel_rfl
def qP.T23 : Bool × List (List Nat × List Nat) := (true, [([], []), ([], []), ([], []), ([2], [2]), ([3], [3]), ([1, 4], [1, 4]), ([0, 5, 5], [0, 5]), ([6], [6]), ([7], [7]), ([7], [7]), ([], []), ([10, 8, 6, 0, 1, 2, 3, 4, 5, 6, 7, 8, 10], [8, 10]), ([9, 11, 0, 1, 2, 3, 4, 5, 6, 7, 8, 9, 10, 11], [9])])
def qP.B23 : List Nat := [0, 0, 0, 4, 12, 30, 63, 127, 255, 255, 0, 1535, 4095]
theorem qP.tab23 : dC .any (opsOf Try.f47 23) = qP.T23 := by kernel_rfl
theorem qP.bits23 : cU qP.T23.2 qP.B23 = true := by kernel_rfl
def qO.T24 : Bool × List (List Nat × List Nat) := (true, [([], []), ([], []), ([], []), ([2], [2]), ([3], [3]), ([4], [4]), ([4], [4]), ([5, 6, 4, 4], [4, 5, 6]), ([4, 7], [4, 7]), ([0, 7, 0], [0]), ([1, 9, 0, 1, 9], [1]), ([8, 10, 0, 1, 2, 3, 4, 5, 6, 7, 8, 9, 10], [8])])
def qO.B24 : List Nat := [0, 0, 0, 4, 12, 28, 28, 124, 252, 253, 767, 2047]
theorem qO.tab24 : dC .any (opsOf Try.f47 24) = qO.T24 := by kernel_rfl
theorem qO.bits24 : cU qO.T24.2 qO.B24 = true := by kernel_rfl
def qN.T28 : Bool × List (List Nat × List Nat) := (true, [([], []), ([], []), ([], []), ([2], [2]), ([3], [3]), ([1, 4], [1, 4]), ([0, 5, 5], [0, 5]), ([6], [6]), ([7], [7]), ([7], [7]), ([], []), ([10, 8, 6, 0, 1, 2, 3, 4, 5, 6, 7, 8, 10], [8, 10]), ([9, 11, 0, 1, 2, 3, 4, 5, 6, 7, 8, 9, 10, 11], [9])])
def qN.B28 : List Nat := [0, 0, 0, 4, 12, 30, 63, 127, 255, 255, 0, 1535, 4095]
theorem qN.tab28 : dC .any (opsOf Try.f47 28) = qN.T28 := by kernel_rfl
theorem qN.bits28 : cU qN.T28.2 qN.B28 = true := by kernel_rfl
def qM.T29 : Bool × List (List Nat × List Nat) := (true, [([], []), ([], []), ([], []), ([2], [2]), ([3], [3]), ([4], [4]), ([4], [4]), ([5, 6, 4, 4], [4, 5, 6]), ([4, 7], [4, 7]), ([0, 7, 0], [0]), ([1, 9, 0, 1, 9], [1]), ([8, 10, 0, 1, 2, 3, 4, 5, 6, 7, 8, 9, 10], [8])])
def qM.B29 : List Nat := [0, 0, 0, 4, 12, 28, 28, 124, 252, 253, 767, 2047]
theorem qM.tab29 : dC .any (opsOf Try.f47 29) = qM.T29 := by kernel_rfl
theorem qM.bits29 : cU qM.T29.2 qM.B29 = true := by kernel_rfl
def qL.T33 : Bool × List (List Nat × List Nat) := (true, [([], []), ([], []), ([], []), ([2], [2]), ([3], [3]), ([4], [4]), ([5, 4, 4], [4, 5]), ([4, 6], [4, 6]), ([0, 6, 0], [0]), ([1, 8, 0, 1, 8], [1]), ([7, 9, 0, 1, 2, 3, 4, 5, 6, 7, 8, 9], [7])])
def qL.B33 : List Nat := [0, 0, 0, 4, 12, 28, 60, 124, 125, 383, 1023]
theorem qL.tab33 : dC .any (opsOf Try.f47 33) = qL.T33 := by kernel_rfl
theorem qL.bits33 : cU qL.T33.2 qL.B33 = true := by kernel_rfl
def qK.T36 : Bool × List (List Nat × List Nat) := (true, [([], []), ([], []), ([], []), ([2], [2]), ([0, 0], [0]), ([1, 4, 0, 1, 4], [1]), ([3, 5, 0, 1, 2, 3, 4, 5], [3])])
def qK.B36 : List Nat := [0, 0, 0, 4, 1, 19, 63]
theorem qK.tab36 : dC .any (opsOf Try.f47 36) = qK.T36 := by kernel_rfl
theorem qK.bits36 : cU qK.T36.2 qK.B36 = true := by kernel_rfl
def lD.T37 : Bool × List (List Nat × List Nat) := (true, [([], []), ([], []), ([0, 0], [0]), ([1, 2, 0, 1, 2], [1]), ([3, 0, 1, 2, 3], [])])
def lD.B37 : List Nat := [0, 0, 1, 7, 15]
theorem lD.tab37 : dC .any (opsOf Try.f47 37) = lD.T37 := by kernel_rfl
theorem lD.bits37 : cU lD.T37.2 lD.B37 = true := by kernel_rfl
end Go.Proofs.Ytemhalnhbgkbcaa.V
end

section
namespace Go.Proofs.Ytemhalnhbgkbcaa.V
set_option maxHeartbeats 16000000 in
set_option maxRecDepth 100000 in
theorem LQ (b : Bk) (hg : RG b) (n : Int) (hn : n < 9223372036854775808) (a : kz) (e7 : a.f0.size ≤ 9223372036854775807) (fE : a.f1.size ≤ 9223372036854775807) (l : List Int) (hu : ∀ x ∈ l, 0 ≤ x ∧ x < 4294967296) (hlm : l.length ≤ 9223372036854775807) (Al : Option Addr) (cl : Nat) (hcl : l.length ≤ cl) (aff : ByteArray) (hza : aff.size ≤ 9223372036854775807) (how : fW aff = true) (v v2 : Value) (w : World) (base : Nat) (hbase : base ≤ w.heap.size) (hO : ea w base v b) (hR : eG w base v2 b) (hC : Kd.C (Kd.int .u32) w Al l.length l) :
  Calls Try.prog 47 #[v, v2, .agg #[.int .i64 7, .int .i64 n, .string a.f0, .string a.f1, .slice Al l.length cl, .string aff]] w fun e w' => ∃ v1 v2 b', e = .returned (.tuple #[v1, v2, .bool true]) ∧ RG b' ∧ ea w' base v1 b' ∧ eG w' base v2 b' ∧ Below w.heap.size w w' := by
 obtain ⟨hl, vf, va, rfl, hf, ha⟩ := hO
 obtain ⟨vs, vp, vm, rfl, hs, hp, hm⟩ := hR
 obtain ⟨Af, cf, rfl⟩ := Kd.R_slice hf
 obtain ⟨Aa, ca, rfl⟩ := Kd.R_slice ha
 obtain ⟨As, cs, rfl⟩ := Kd.R_slice hs
 obtain ⟨Ap, cp, rfl⟩ := Kd.R_slice hp
 obtain ⟨M, hM⟩ : ∃ M, M = b.attrs.map vc := ⟨_, rfl⟩
 rw [← hM] at hm
 obtain ⟨Am, cm, rfl⟩ := Kd.R_slice hm
 have HL := ak hl
 have HM := ak hM
 have bw := ak hf
 have dY := ak ha
 have aX := ak hs
 have dT := ak hp
 have bD := ak hm
 have HG := ak hg
 have ae := ak (Below.refl w.heap.size w)
 have HBASE := ak hbase
 have HLB := ak (cg (aZ b.addr b.aff b.slots (.slice Af b.free.length cf) (.slice Aa b.attrs.length ca)) (ag _ _ _ _ _ HL.out))
 obtain ⟨lt, hlt⟩ : ∃ lt, lt = l.take 80 := ⟨_, rfl⟩
 have hut : ∀ x ∈ lt, 0 ≤ x ∧ x < 4294967296 := fun x hx => hu x (by rw [hlt] at hx; exact List.mem_of_mem_take hx)
 have hll : lt.length = min 80 l.length := by rw [hlt, List.length_take]
 have HCL := ak hcl
 have HLL := ak hll
 have HC := ak hC
 have HCT := ak (fun W (I : Below w.heap.size w W) => (show Kd.C (Kd.int .u32) W Al lt.length lt by
  rcases Nat.lt_or_ge 80 l.length with h | h
  ·have h_ := Kd.C_take (m := 80) (Kd.C_below hC I) (by omega)
   rw [← hlt] at h_
   exact h_
  ·have h_ := Kd.C_below hC I
   have e : lt = l := by rw [hlt, List.take_of_length_le h]
   rw [e]
   exact h_))
 have hbl := fun v w h => CU b hg.ok (by have := hg.sum; omega) (by have := hg.na; omega) aff v w h
 rw [hg.right, how, Bool.true_and] at hbl
 rw [if_pos rfl] at hbl
 have HOW := ak (fun w => Az aff hza w)
 rw [how] at HOW
 have hrg := hg.own aff how
 obtain ⟨nb, hnb⟩ : ∃ nb, nb = DL b aff := ⟨_, rfl⟩
 have hq : nb.addr = b.addr ∧ nb.aff = aff ∧ nb.slots = b.slots ∧ nb.free = b.free ∧ nb.attrs = b.attrs := by rw [hnb]; exact ⟨rfl, rfl, rfl, rfl, rfl⟩
 rw [← hnb] at hbl hrg
 have HRG := ak hrg
 have HQ := ak hq
 have HNL := ak hrg.l64
 have HLN := fun A8 c8 A9 c9 => cg (aZ nb.addr nb.aff nb.slots (.slice A8 nb.free.length c8) (.slice A9 nb.attrs.length c9)) (ag _ _ _ _ _ HNL.out)
 have HCP := ak (fun w h => zP b (by omega) (by have := hg.sum; omega) M (by rw [hM, List.length_map]; have := hg.na; omega) As cs Ap cp Am cm w h)
 have HBL := ak hbl
 clear how hrg hnb hq hbl
 clear hl hM hf ha hs hp hm hbase hC hu hut hll hcl hlt hg
 go_enter Try.func47, Try.ntmps47
 go_upto_if 37 with (first
  | (refine aE rfl 57 (.tmp 0) rfl _ rfl ?_; intro gX W1 J aa I; have bQ := ge ae J; have ai := ak (ae.out.trans (I.mono ae.out.size)); have bp := mv I bw; have dp := mv I dY; have bd := mv I aX; have cZ := mv I dT; have bH := mv I bD; have ah := ak (aa); clear J aa I ae bw dY aX dT bD)
  | (refine aE rfl 62 (.tmp 1) rfl _ rfl ?_; intro gY W2 J aa I; have iX := ge ai J; have fB := ne ah J; have av := mv I ai; have bT := mv I bp; have dF := mv I dp; have bC := mv I bd; have dd := mv I cZ; have b9 := mv I bH; have au := mv I ah; have b8 := ak (aa); clear J aa I ai bp dp bd cZ bH ah)
  | (refine aE rfl 79 (.tmp 2) rfl _ rfl ?_; intro gT W3 J aa I; have j9 := ge av J; have gW := ne au J; have ir := ne b8 J; have aD := mv I av; have cj := mv I bT; have dQ := mv I dF; have bU := mv I bC; have dA := mv I dd; have cN := mv I b9; have aA := mv I au; have b7 := mv I b8; have dK := ak (aa); clear J aa I av bT dF bC dd b9 au b8)
  | (refine aw (some 6) rfl rfl 57 rfl a9 bP ?_; intro gZ W4 J aa I; have bN := ge aD J; have aG := ne aA J; have fM := ne b7 J; have jC := ne dK J; have aY := mv I aD; have ch := mv I cj; have dE := mv I dQ; have cx := mv I bU; have dX := mv I dA; have cR := mv I cN; have aV := mv I aA; have bZ := mv I b7; have dP := mv I dK; have a8 := ak (aa); clear J aa I aD cj dQ bU dA cN aA b7 dK)
  | (refine aw (some 7) rfl rfl 62 rfl dG (fun _ => by kernel_rfl) ?_; intro gU W5 J aa I; have fu := ge aY J; have gC := ne aV J; have dw := ne bZ J; have jD := ne dP J; have gB := ne a8 J; have bf := mv I aY; have cb := mv I ch; have de := mv I dE; have cJ := mv I cx; have ee := mv I dX; have cG := mv I cR; have bb := mv I aV; have cB := mv I bZ; have bx := mv I dP; have bu := mv I a8; have eH := ak (aa); have jA := bx.out.cell 0 _ rfl; have gR := bx.out.cell 1 _ rfl; have jz := bx.out.cell 2 _ rfl; have jy := bx.out.cell 3 _ rfl; have jx := bx.out.cell 4 _ rfl; have gv := bx.out.cell 5 _ rfl; clear J aa I aY ch dE cx dX cR aV bZ dP a8))
 go_cut [9] from 37 to 39 (fun s9 wx => s9 = .slice Al lt.length cl ∧ W5 = wx)
 case first =>
  rcases Nat.lt_or_ge 80 l.length with k8 | k8
  ·have kZ : decide ((80 : Int) < (l.length : Int)) = true := by simp; omega
   have tJ : (((0 : Int) ≤ 80 ∧ (80 : Int) ≤ (cl : Int)) = True) := eq_true ⟨by omega, by have := HCL.out; omega⟩
   have tI : (((80 : Int) ≤ (cl : Int)) = True) := eq_true (by have := HCL.out; omega)
   go_wp2_with fail
   go_meet
   exact ⟨by rw [HLL.out, Nat.min_eq_left (by omega)], rfl⟩
  ·have kZ : decide ((80 : Int) < (l.length : Int)) = false := by simp; omega
   go_wp2_with fail
   go_meet
   exact ⟨by rw [HLL.out, Nat.min_eq_right (by omega)], rfl⟩
 case rest =>
 obtain ⟨fY, fX⟩ := hcut
 subst fY
 subst fX
 go_wp2_with (first
  | ((with_reducible refine ax (N := 208) rfl ?_); refine az rfl 57 (.tmp 3) rfl gX rfl _ _ _ bb.out Try.underlying57 rfl 68 (by kernel_rfl) (ag _ _ _ _ _ HL.out) ?_)
  | (go_at_call 55; refine (HBL.out _ _ ⟨_, _, _, _, rfl, ⟨HL.out, (rr cb).1, (rr cb).2, (rr de).1, (rr de).2⟩⟩).mono ?_; rintro e W6 ⟨v_, rfl, aW, I⟩; have HSZ := ak (lb HBASE bf); obtain ⟨iD, oP, oQ, rfl, di, dO⟩ := aW; obtain ⟨A8, c8, rfl⟩ := Kd.R_slice di; obtain ⟨A9, c9, rfl⟩ := Kd.R_slice dO; have bG := mv I bf; have cQ := mv I cb; have dt := mv I de; have cY := mv I cJ; have ef := mv I ee; have dD := mv I cG; have bh := mv I bb; have cX := mv I cB; have fh := mv I bx; have bS := mv I bu; have dW := mv I eH; have n6 := ak (Kd.R_lower di HSZ.out); have nY := ak (Kd.R_lower dO HSZ.out); clear HSZ iD di dO I bf cb de cJ ee cG bb cB bx bu eH jA gR jz jy jx gv)
  | (refine aw (some 30) rfl rfl 57 rfl a9 bP ?_; intro gQ W7 J aa I; have cE := ge bG J; have bk := ne bh J; have tl := ne cX J; have tp := ne fh J; have a7 := ne bS J; have tm := ne dW J; have dU := mv I bG; have eZ := mv I cQ; have je := mv I dt; have fN := mv I cY; have l6 := mv I ef; have jF := mv I dD; have dj := mv I bh; have iN := mv I cX; have nN := mv I fh; have dz := mv I bS; have nM := mv I dW; have n5 := mv I n6; have nX := mv I nY; have dx := ak (aa); clear J aa I bG cQ dt cY ef dD bh cX fh bS dW n6 nY)
  | (refine aN rfl 57 (.tmp 30) (.tmp 212) rfl gQ (aZ nb.addr nb.aff nb.slots (.slice A8 nb.free.length c8) (.slice A9 nb.attrs.length c9)) rfl rfl 57 _ dx.out 68 (by kernel_rfl) (ag _ _ _ _ _ HNL.out) rfl (b4 _ _ _ _ _ rfl rfl) ?_; intro W8 aa J; have gM := gb dU cE J; have kh := gr eZ dx J; have kg := gr je dx J; have ly := gr fN dx J; have m3 := gr l6 dx J; have m5 := gr jF dx J; have gK := gn dj bk J; have lv := gx iN dx J; have mD := gx nN dx J; have fH := gn dz a7 J; have nL := gx nM dx J; have n2 := gr n5 dx J; have nW := gr nX dx J; have nQ := ak (aa); have gv := mD.out.cell 5 _ rfl; clear aa J dU eZ je fN l6 jF dj iN nN dz nM n5 nX dx)
  | (go_at_call 42; refine (HOW.out _).mono ?_; rintro e W9 ⟨rfl, I⟩; have ki := mv I gM; have m8 := mv I kh; have m7 := mv I kg; have kV := mv I ly; have m2 := mv I m3; have m4 := mv I m5; have kf := mv I gK; have kU := mv I lv; have mC := mv I mD; have j3 := mv I fH; have mZ := mv I nL; have n1 := mv I n2; have nV := mv I nW; have m0 := mv I nQ; have gv := mC.out.cell 5 _ rfl; clear I gM kh kg ly m3 m5 gK lv mD fH nL n2 nW nQ gv)
  | ((with_reducible refine ax (N := 226) rfl ?_); refine az rfl 62 (.tmp 4) rfl gY rfl _ _ _ kU.out Try.underlying62 rfl 5 (by kernel_rfl) rfl ?_)
  | (go_at_call 85; refine (HCP.out _ (jd.of HM.out kV.out m2.out m4.out)).mono ?_; rintro e Ou ⟨tT, qE, qF, rfl, fZ, fb, ep, I⟩; have HSZ := ak (lb HBASE ki); obtain ⟨A1, c1, rfl⟩ := Kd.R_slice fZ; obtain ⟨A2, c2, rfl⟩ := Kd.R_slice fb; obtain ⟨A3, c3, rfl⟩ := Kd.R_slice ep; have mm := mv I ki; have rP := mv I m8; have rM := mv I m7; have nP := mv I kV; have rC := mv I m2; have rH := mv I m4; have mh := mv I kf; have oJ := mv I kU; have pH := mv I mC; have mU := mv I j3; have pE := mv I mZ; have rV := mv I n1; have rS := mv I nV; have pK := mv I m0; have rJ := ak (Kd.R_mono (ok' := fun _ => True) (Kd.R_lower fZ HSZ.out) (fun _ _ => trivial)); have xA := ak (Kd.R_mono (ok' := fun _ => True) (Kd.R_lower fb HSZ.out) (fun _ _ => trivial)); have xU := ak (Kd.R_mono (ok' := fun _ => True) (Kd.R_lower ep HSZ.out) (fun _ _ => trivial)); clear HSZ fZ fb ep I ki m8 m7 kV m2 m4 kf kU mC j3 mZ n1 nV m0 gv)
  | (refine aw (some 32) rfl rfl 62 rfl dG (fun _ => by kernel_rfl) ?_; intro gV Hv J aa I; have df := ge mm J; have fx := ne mh J; have eC := ne oJ J; have tn := ne pH J; have jZ := ne mU J; have dV := ne pE J; have tq := ne pK J; have rZ := mv I mm; have xQ := mv I rP; have xJ := mv I rM; have ru := mv I nP; have xn := mv I rC; have xu := mv I rH; have nJ := mv I mh; have wR := mv I oJ; have xa := mv I pH; have rf := mv I mU; have wY := mv I pE; have yc := mv I rV; have xY := mv I rS; have xj := mv I pK; have pL := mv I rJ; have xz := mv I xA; have xT := mv I xU; have jN := ak (aa); clear J aa I mm rP rM nP rC rH mh oJ pH mU pE rV rS pK rJ xA xU)
  | (refine aN rfl 62 (.tmp 32) (.tmp 227) rfl gV (da b.addr b.aff (.slice A1 b.slots.length c1) (.slice A2 b.free.length c2) (.slice A3 M.length c3)) rfl rfl 62 _ jN.out 5 (by kernel_rfl) rfl rfl (dJ _ _ rfl rfl rfl) ?_; intro Hu aa J; have rY := gb rZ df J; have xP := gr xQ jN J; have xI := gr xJ jN J; have pI := gr ru jN J; have xm := gr xn jN J; have xt := gr xu jN J; have nI := gx nJ jN J; have wQ := gn wR eC J; have vn := gx xa jN J; have pD := gx rf jN J; have wX := gn wY dV J; have yb := gr yc jN J; have xX := gr xY jN J; have xi := gx xj jN J; have oL := gr pL jN J; have xy := gr xz jN J; have xS := gr xT jN J; have iT := ak (aa); have gv := vn.out.cell 5 _ rfl; have lr := iT.out.cell 1 _ rfl; have OW := iT.out.frozen 1; clear aa J rZ xQ xJ ru xn xu nJ wR xa rf wY yc xY xj pL xz xT jN))
 generalize bR : Hu.setCell ⟨gV, 1, none⟩ (.string aff) = Ht; have J : Hu.grownBy Ht (some gV) := (by rw [← bR]; exact bO _ _ _ _); have yj := gb rY df J; have xO := gr xP iT J; have xH := gr xI iT J; have xe := gr pI iT J; have Ie := gr xm iT J; have Iw := gr xt iT J; have oK := gx nI iT J; have Hz := gn wQ eC J; have H7 := gx vn iT J; have wN := gx pD iT J; have H2 := gn wX dV J; have Jp := gr yb iT J; have Jn := gr xX iT J; have Ia := gx xi iT J; have xD := gr oL iT J; have IE := gr xy iT J; have Jk := gr xS iT J; have D9 := ak (iT.out.set 1 (.string aff)); rw [bR] at D9; clear bR J rY xP xI pI xm xt nI wQ vn pD wX yb xX xi oL xy xS iT gv lr OW
 have aj : Below Ht.heap.size Ht Ht.drew := bo (Below.refl _ _)
 have yi := mv aj yj; have xN := mv aj xO; have xG := mv aj xH; have xd := mv aj xe; have Ic := mv aj Ie; have Iv := mv aj Iw; have rl := mv aj oK; have Hy := mv aj Hz; have H6 := mv aj H7; have re := mv aj wN; have H0 := mv aj H2; have Jo := mv aj Jp; have Jm := mv aj Jn; have H9 := mv aj Ia; have xC := mv aj xD; have ID := mv aj IE; have Jj := mv aj Jk; have HW := mv aj D9
 clear aj yj xO xH xe Ie Iw oK Hz H7 wN H2 Jp Jn Ia xD IE Jk D9
 have hB := yi
 have hF := xN
 have hG := xG
 have hS := xd
 have hP := Ic
 have hM := Iv
 have hX := rl
 have hY := Hy
 have hT := H6
 have hZ := re
 have hU := H0
 have hC := Jo
 have hD := Jm
 have hQ := H9
 have hI := xC
 have hJ := ID
 have hE := Jj
 have hV := HW
 clear yi xN xG xd Ic Iv rl Hy H6 re H0 Jo Jm H9 xC ID Jj HW
 refine cW (n := 7) (S := fun w' => aH w' gQ (aZ nb.addr nb.aff nb.slots (.slice A8 nb.free.length c8) (.slice A9 nb.attrs.length c9)) 57 ∧ aH w' gV (da b.addr aff (.slice A1 b.slots.length c1) (.slice A2 b.free.length c2) (.slice A3 M.length c3)) 62) (ds := []) #[false, false, false, false, false, false, false] (by kernel_rfl) rfl rfl ⟨hQ.out, hV.out⟩ (fun hHeld => ?_); refine bK qK.tab36 qK.bits36 (fun ab bj => ?_)
 refine tk 0 ab.out bj.out hHeld ?_ (hv := by exact fun _ aU => aI 57 (.tmp 30) rfl gQ rfl _ _ _ aU.1 Try.underlying57 rfl (HLN _ _ _ _))
 refine tk 1 ab.out bj.out hHeld ?_ (hv := by exact fun _ aU => aI 62 (.tmp 32) rfl gV rfl _ _ _ aU.2 Try.underlying62 rfl (by kernel_rfl))
 refine pu 2 ab.out ?_
 refine pu 3 ab.out ?_
 refine ow 4 ab.out (fun K hK => ?_)
 refine bA (by rfl) rfl 57 (.tmp 6) (.tmp 231) rfl gZ (aZ nb.addr nb.aff nb.slots (.slice A8 nb.free.length c8) (.slice A9 nb.attrs.length c9)) rfl rfl 57 _ hZ.out 68 (by kernel_rfl) (ag _ _ _ _ _ HNL.out) rfl (b4 _ _ _ _ _ rfl rfl) ?_
 intro V4 aa J; replace hB := gb hB bN J; replace hF := gr hF hZ J; replace hG := gr hG hZ J; replace hS := gr hS hZ J; replace hP := gr hP hZ J; replace hM := gr hM hZ J; replace hX := gn hX aG J; replace hY := gx hY hZ J; replace hT := gx hT hZ J; replace hU := gx hU hZ J; replace hC := gr hC hZ J; replace hD := gr hD hZ J; replace hQ := gm hQ a7 J; replace hI := gr hI hZ J; replace hJ := gr hJ hZ J; replace hE := gr hE hZ J; replace hV := gx hV hZ J; replace hZ := ak (aa); clear aa J
 refine hK.out _ _ ⟨hQ.out, hV.out⟩ (fun hHeld => ?_)
 clear hK K
 refine ow 5 ab.out (fun K hK => ?_)
 refine bA (by rfl) rfl 62 (.tmp 7) (.tmp 232) rfl gU (da b.addr aff (.slice A1 b.slots.length c1) (.slice A2 b.free.length c2) (.slice A3 M.length c3)) rfl rfl 62 _ hU.out 5 (by kernel_rfl) rfl rfl (dJ _ _ rfl rfl rfl) ?_
 intro V5 aa J; replace hB := gb hB fu J; replace hF := gr hF hU J; replace hG := gr hG hU J; replace hS := gr hS hU J; replace hP := gr hP hU J; replace hM := gr hM hU J; replace hX := gx hX hU J; replace hY := gn hY dw J; replace hT := gx hT hU J; replace hZ := gx hZ hU J; replace hC := gr hC hU J; replace hD := gr hD hU J; replace hQ := gx hQ hU J; replace hI := gr hI hU J; replace hJ := gr hJ hU J; replace hE := gr hE hU J; replace hV := gm hV dV J; replace hU := ak (aa); clear aa J
 refine hK.out _ _ ⟨hQ.out, hV.out⟩ (fun hHeld => ?_)
 clear hK K
 refine pu 6 ab.out ?_
 refine dn ab.out ?_
 clear hHeld
 go_wp2_with fail
 refine bodyPost_ret (eK rfl _ _ _ gZ gU 57 62 _ _ _ _ rfl hZ.out rfl Try.underlying57 (HLN _ _ _ _) rfl hU.out rfl Try.underlying62 (by kernel_rfl)) rfl ⟨_, _, nb, rfl, HRG.out, ⟨HNL.out, _, _, rfl, hC.out, hD.out⟩, ?_, hB.out⟩
 obtain ⟨e1, e2, e3, e4, e5⟩ := HQ.out
 exact ⟨_, _, _, by rw [e1, e2], by rw [e3]; exact hI.out, by rw [e4]; exact hJ.out, by rw [e5, ← HM.out]; exact hE.out⟩
set_option maxHeartbeats 16000000 in
set_option maxRecDepth 100000 in
theorem Kt (b : Bk) (hg : RG b) (n : Int) (hn : n < 9223372036854775808) (a : kz) (e7 : a.f0.size ≤ 9223372036854775807) (fE : a.f1.size ≤ 9223372036854775807) (l : List Int) (hu : ∀ x ∈ l, 0 ≤ x ∧ x < 4294967296) (hlm : l.length ≤ 9223372036854775807) (Al : Option Addr) (cl : Nat) (hcl : l.length ≤ cl) (aff : ByteArray) (hza : aff.size ≤ 9223372036854775807) (how : fW aff = false) (v v2 : Value) (w : World) (base : Nat) (hbase : base ≤ w.heap.size) (hO : ea w base v b) (hR : eG w base v2 b) (hC : Kd.C (Kd.int .u32) w Al l.length l) :
  Calls Try.prog 47 #[v, v2, .agg #[.int .i64 7, .int .i64 n, .string a.f0, .string a.f1, .slice Al l.length cl, .string aff]] w fun e w' => ∃ v1 v2 b', e = .returned (.tuple #[v1, v2, .bool true]) ∧ RG b' ∧ ea w' base v1 b' ∧ eG w' base v2 b' ∧ Below w.heap.size w w' := by
 obtain ⟨hl, vf, va, rfl, hf, ha⟩ := hO
 obtain ⟨vs, vp, vm, rfl, hs, hp, hm⟩ := hR
 obtain ⟨Af, cf, rfl⟩ := Kd.R_slice hf
 obtain ⟨Aa, ca, rfl⟩ := Kd.R_slice ha
 obtain ⟨As, cs, rfl⟩ := Kd.R_slice hs
 obtain ⟨Ap, cp, rfl⟩ := Kd.R_slice hp
 obtain ⟨M, hM⟩ : ∃ M, M = b.attrs.map vc := ⟨_, rfl⟩
 rw [← hM] at hm
 obtain ⟨Am, cm, rfl⟩ := Kd.R_slice hm
 have HL := ak hl
 have HM := ak hM
 have bw := ak hf
 have dY := ak ha
 have aX := ak hs
 have dT := ak hp
 have bD := ak hm
 have HG := ak hg
 have ae := ak (Below.refl w.heap.size w)
 have HBASE := ak hbase
 have HLB := ak (cg (aZ b.addr b.aff b.slots (.slice Af b.free.length cf) (.slice Aa b.attrs.length ca)) (ag _ _ _ _ _ HL.out))
 obtain ⟨lt, hlt⟩ : ∃ lt, lt = l.take 80 := ⟨_, rfl⟩
 have hut : ∀ x ∈ lt, 0 ≤ x ∧ x < 4294967296 := fun x hx => hu x (by rw [hlt] at hx; exact List.mem_of_mem_take hx)
 have hll : lt.length = min 80 l.length := by rw [hlt, List.length_take]
 have HCL := ak hcl
 have HLL := ak hll
 have HC := ak hC
 have HCT := ak (fun W (I : Below w.heap.size w W) => (show Kd.C (Kd.int .u32) W Al lt.length lt by
  rcases Nat.lt_or_ge 80 l.length with h | h
  ·have h_ := Kd.C_take (m := 80) (Kd.C_below hC I) (by omega)
   rw [← hlt] at h_
   exact h_
  ·have h_ := Kd.C_below hC I
   have e : lt = l := by rw [hlt, List.take_of_length_le h]
   rw [e]
   exact h_))
 have hbl := fun v w h => CU b hg.ok (by have := hg.sum; omega) (by have := hg.na; omega) aff v w h
 rw [hg.right, how, Bool.true_and] at hbl
 rw [if_neg (by decide), if_neg (by decide)] at hbl
 have HOW := ak (fun w => Az aff hza w)
 rw [how] at HOW
 obtain ⟨nb, hnb⟩ : ∃ nb, nb = jP := ⟨_, rfl⟩
 have hnl : jP.slots.length = 64 := rfl
 rw [← hnb] at hbl hnl
 have HNB := ak hnb
 have HNL := ak hnl
 have HLN := fun A8 c8 A9 c9 => cg (aZ nb.addr nb.aff nb.slots (.slice A8 nb.free.length c8) (.slice A9 nb.attrs.length c9)) (ag _ _ _ _ _ HNL.out)
 have HZR := ak (fun v w h => oc v w (by rw [← HNB.out]; exact h))
 have HBL := ak hbl
 clear how hnb hnl hbl
 clear hl hM hf ha hs hp hm hbase hC hu hut hll hcl hlt hg
 go_enter Try.func47, Try.ntmps47
 go_upto_if 37 with (first
  | (refine aE rfl 57 (.tmp 0) rfl _ rfl ?_; intro gX W1 J aa I; have bQ := ge ae J; have ai := ak (ae.out.trans (I.mono ae.out.size)); have bp := mv I bw; have dp := mv I dY; have bd := mv I aX; have cZ := mv I dT; have bH := mv I bD; have ah := ak (aa); clear J aa I ae bw dY aX dT bD)
  | (refine aE rfl 62 (.tmp 1) rfl _ rfl ?_; intro gY W2 J aa I; have iX := ge ai J; have fB := ne ah J; have av := mv I ai; have bT := mv I bp; have dF := mv I dp; have bC := mv I bd; have dd := mv I cZ; have b9 := mv I bH; have au := mv I ah; have b8 := ak (aa); clear J aa I ai bp dp bd cZ bH ah)
  | (refine aE rfl 79 (.tmp 2) rfl _ rfl ?_; intro gT W3 J aa I; have j9 := ge av J; have gW := ne au J; have ir := ne b8 J; have aD := mv I av; have cj := mv I bT; have dQ := mv I dF; have bU := mv I bC; have dA := mv I dd; have cN := mv I b9; have aA := mv I au; have b7 := mv I b8; have dK := ak (aa); clear J aa I av bT dF bC dd b9 au b8)
  | (refine aw (some 6) rfl rfl 57 rfl a9 bP ?_; intro gZ W4 J aa I; have bN := ge aD J; have aG := ne aA J; have fM := ne b7 J; have jC := ne dK J; have aY := mv I aD; have ch := mv I cj; have dE := mv I dQ; have cx := mv I bU; have dX := mv I dA; have cR := mv I cN; have aV := mv I aA; have bZ := mv I b7; have dP := mv I dK; have a8 := ak (aa); clear J aa I aD cj dQ bU dA cN aA b7 dK)
  | (refine aw (some 7) rfl rfl 62 rfl dG (fun _ => by kernel_rfl) ?_; intro gU W5 J aa I; have fu := ge aY J; have gC := ne aV J; have dw := ne bZ J; have jD := ne dP J; have gB := ne a8 J; have bf := mv I aY; have cb := mv I ch; have de := mv I dE; have cJ := mv I cx; have ee := mv I dX; have cG := mv I cR; have bb := mv I aV; have cB := mv I bZ; have bx := mv I dP; have bu := mv I a8; have eH := ak (aa); have jA := bx.out.cell 0 _ rfl; have gR := bx.out.cell 1 _ rfl; have jz := bx.out.cell 2 _ rfl; have jy := bx.out.cell 3 _ rfl; have jx := bx.out.cell 4 _ rfl; have gv := bx.out.cell 5 _ rfl; clear J aa I aY ch dE cx dX cR aV bZ dP a8))
 go_cut [9] from 37 to 39 (fun s9 wx => s9 = .slice Al lt.length cl ∧ W5 = wx)
 case first =>
  rcases Nat.lt_or_ge 80 l.length with k8 | k8
  ·have kZ : decide ((80 : Int) < (l.length : Int)) = true := by simp; omega
   have tJ : (((0 : Int) ≤ 80 ∧ (80 : Int) ≤ (cl : Int)) = True) := eq_true ⟨by omega, by have := HCL.out; omega⟩
   have tI : (((80 : Int) ≤ (cl : Int)) = True) := eq_true (by have := HCL.out; omega)
   go_wp2_with fail
   go_meet
   exact ⟨by rw [HLL.out, Nat.min_eq_left (by omega)], rfl⟩
  ·have kZ : decide ((80 : Int) < (l.length : Int)) = false := by simp; omega
   go_wp2_with fail
   go_meet
   exact ⟨by rw [HLL.out, Nat.min_eq_right (by omega)], rfl⟩
 case rest =>
 obtain ⟨fY, fX⟩ := hcut
 subst fY
 subst fX
 go_wp2_with (first
  | ((with_reducible refine ax (N := 208) rfl ?_); refine az rfl 57 (.tmp 3) rfl gX rfl _ _ _ bb.out Try.underlying57 rfl 68 (by kernel_rfl) (ag _ _ _ _ _ HL.out) ?_)
  | (go_at_call 55; refine (HBL.out _ _ ⟨_, _, _, _, rfl, ⟨HL.out, (rr cb).1, (rr cb).2, (rr de).1, (rr de).2⟩⟩).mono ?_; rintro e W6 ⟨v_, rfl, aW, I⟩; have HSZ := ak (lb HBASE bf); obtain ⟨iD, oP, oQ, rfl, di, dO⟩ := aW; obtain ⟨A8, c8, rfl⟩ := Kd.R_slice di; obtain ⟨A9, c9, rfl⟩ := Kd.R_slice dO; have bG := mv I bf; have cQ := mv I cb; have dt := mv I de; have cY := mv I cJ; have ef := mv I ee; have dD := mv I cG; have bh := mv I bb; have cX := mv I cB; have fh := mv I bx; have bS := mv I bu; have dW := mv I eH; have n6 := ak (Kd.R_lower di HSZ.out); have nY := ak (Kd.R_lower dO HSZ.out); clear HSZ iD di dO I bf cb de cJ ee cG bb cB bx bu eH jA gR jz jy jx gv)
  | (refine aw (some 30) rfl rfl 57 rfl a9 bP ?_; intro gQ W7 J aa I; have cE := ge bG J; have bk := ne bh J; have tl := ne cX J; have tp := ne fh J; have a7 := ne bS J; have tm := ne dW J; have dU := mv I bG; have eZ := mv I cQ; have je := mv I dt; have fN := mv I cY; have l6 := mv I ef; have jF := mv I dD; have dj := mv I bh; have iN := mv I cX; have nN := mv I fh; have dz := mv I bS; have nM := mv I dW; have n5 := mv I n6; have nX := mv I nY; have dx := ak (aa); clear J aa I bG cQ dt cY ef dD bh cX fh bS dW n6 nY)
  | (refine aN rfl 57 (.tmp 30) (.tmp 212) rfl gQ (aZ nb.addr nb.aff nb.slots (.slice A8 nb.free.length c8) (.slice A9 nb.attrs.length c9)) rfl rfl 57 _ dx.out 68 (by kernel_rfl) (ag _ _ _ _ _ HNL.out) rfl (b4 _ _ _ _ _ rfl rfl) ?_; intro W8 aa J; have gM := gb dU cE J; have kh := gr eZ dx J; have kg := gr je dx J; have ly := gr fN dx J; have m3 := gr l6 dx J; have m5 := gr jF dx J; have gK := gn dj bk J; have lv := gx iN dx J; have mD := gx nN dx J; have fH := gn dz a7 J; have nL := gx nM dx J; have n2 := gr n5 dx J; have nW := gr nX dx J; have nQ := ak (aa); have gv := mD.out.cell 5 _ rfl; clear aa J dU eZ je fN l6 jF dj iN nN dz nM n5 nX dx)
  | (go_at_call 42; refine (HOW.out _).mono ?_; rintro e W9 ⟨rfl, I⟩; have ki := mv I gM; have m8 := mv I kh; have m7 := mv I kg; have kV := mv I ly; have m2 := mv I m3; have m4 := mv I m5; have kf := mv I gK; have kU := mv I lv; have mC := mv I mD; have j3 := mv I fH; have mZ := mv I nL; have n1 := mv I n2; have nV := mv I nW; have m0 := mv I nQ; clear I gM kh kg ly m3 m5 gK lv mD fH nL n2 nW nQ gv))
 have aj : Below W9.heap.size W9 W9.drew := bo (Below.refl _ _)
 have mm := mv aj ki; have rP := mv aj m8; have rM := mv aj m7; have nP := mv aj kV; have rC := mv aj m2; have rH := mv aj m4; have mh := mv aj kf; have oJ := mv aj kU; have pH := mv aj mC; have mU := mv aj j3; have pE := mv aj mZ; have rV := mv aj n1; have rS := mv aj nV; have pK := mv aj m0
 clear aj ki m8 m7 kV m2 m4 kf kU mC j3 mZ n1 nV m0
 have hB := mm
 have hF := rP
 have hG := rM
 have hS := nP
 have hP := rC
 have hM := rH
 have hX := mh
 have hY := oJ
 have hT := pH
 have hZ := mU
 have hU := pE
 have hC := rV
 have hD := rS
 have hQ := pK
 clear mm rP rM nP rC rH mh oJ pH mU pE rV rS pK
 refine cW (n := 11) (S := fun w' => aH w' gX (aZ b.addr b.aff b.slots (.slice Af b.free.length cf) (.slice Aa b.attrs.length ca)) 57 ∧ aH w' gY (da b.addr b.aff (.slice As b.slots.length cs) (.slice Ap b.free.length cp) (.slice Am M.length cm)) 62 ∧ aH w' gQ (aZ nb.addr nb.aff nb.slots (.slice A8 nb.free.length c8) (.slice A9 nb.attrs.length c9)) 57) (ds := []) #[false, false, false, false, false, false, false, false, false, false, false] (by kernel_rfl) rfl rfl ⟨hX.out, hY.out, hQ.out⟩ (fun hHeld => ?_); refine bK qL.tab33 qL.bits33 (fun ab bj => ?_)
 refine tk 0 ab.out bj.out hHeld ?_ (hv := by exact fun _ aU => aI 57 (.tmp 3) rfl gX rfl _ _ _ aU.1 Try.underlying57 rfl HLB.out)
 refine tk 1 ab.out bj.out hHeld ?_ (hv := by exact fun _ aU => aI 62 (.tmp 4) rfl gY rfl _ _ _ aU.2.1 Try.underlying62 rfl (by kernel_rfl))
 refine pu 2 ab.out ?_
 refine pu 3 ab.out ?_
 refine pu 4 ab.out ?_
 refine tk 5 ab.out bj.out hHeld ?_ (hv := by exact fun _ aU => aI 57 (.tmp 30) rfl gQ rfl _ _ _ aU.2.2 Try.underlying57 rfl (HLN _ _ _ _))
 refine on 6 ab.out (fun K hK => ?_)
 refine gs Try.func43 #[.agg (aZ nb.addr nb.aff nb.slots (.slice A8 nb.free.length c8) (.slice A9 nb.attrs.length c9)).toArray] (HZR.out _ _ ⟨_, _, _, _, rfl, ⟨HNL.out, (rr hC).1, (rr hC).2, (rr hD).1, (rr hD).2⟩⟩) ?_
 rintro e V6 ⟨rfl, I⟩
 refine ⟨_, rfl, ?_⟩
 replace hB := mv I hB; replace hF := mv I hF; replace hG := mv I hG; replace hS := mv I hS; replace hP := mv I hP; replace hM := mv I hM; replace hX := mv I hX; replace hY := mv I hY; replace hT := mv I hT; replace hZ := mv I hZ; replace hU := mv I hU; replace hC := mv I hC; replace hD := mv I hD; replace hQ := mv I hQ
 refine kn hK ⟨hX.out, hY.out, hQ.out⟩ (fun hHeld => ?_)
 clear hK K
 refine pu 7 ab.out ?_
 refine ow 8 ab.out (fun K hK => ?_)
 refine bA (by rfl) rfl 57 (.tmp 6) (.tmp 218) rfl gZ (aZ b.addr b.aff b.slots (.slice Af b.free.length cf) (.slice Aa b.attrs.length ca)) rfl rfl 57 _ hZ.out 68 (by kernel_rfl) (ag _ _ _ _ _ HL.out) rfl (b4 _ _ _ _ _ rfl rfl) ?_
 intro V8 aa J; replace hB := gb hB bN J; replace hF := gr hF hZ J; replace hG := gr hG hZ J; replace hS := gr hS hZ J; replace hP := gr hP hZ J; replace hM := gr hM hZ J; replace hX := gn hX aG J; replace hY := gx hY hZ J; replace hT := gx hT hZ J; replace hU := gx hU hZ J; replace hC := gr hC hZ J; replace hD := gr hD hZ J; replace hQ := gm hQ a7 J; replace hZ := ak (aa); clear aa J
 refine hK.out _ _ ⟨hX.out, hY.out, hQ.out⟩ (fun hHeld => ?_)
 clear hK K
 refine ow 9 ab.out (fun K hK => ?_)
 refine bA (by rfl) rfl 62 (.tmp 7) (.tmp 219) rfl gU (da b.addr b.aff (.slice As b.slots.length cs) (.slice Ap b.free.length cp) (.slice Am M.length cm)) rfl rfl 62 _ hU.out 5 (by kernel_rfl) rfl rfl (dJ _ _ rfl rfl rfl) ?_
 intro V9 aa J; replace hB := gb hB fu J; replace hF := gr hF hU J; replace hG := gr hG hU J; replace hS := gr hS hU J; replace hP := gr hP hU J; replace hM := gr hM hU J; replace hX := gx hX hU J; replace hY := gn hY dw J; replace hT := gx hT hU J; replace hZ := gx hZ hU J; replace hC := gr hC hU J; replace hD := gr hD hU J; replace hQ := gx hQ hU J; replace hU := ak (aa); clear aa J
 refine hK.out _ _ ⟨hX.out, hY.out, hQ.out⟩ (fun hHeld => ?_)
 clear hK K
 refine pu 10 ab.out ?_
 refine dn ab.out ?_
 clear hHeld
 go_wp2_with fail
 refine bodyPost_ret (eK rfl _ _ _ gZ gU 57 62 _ _ _ _ rfl hZ.out rfl Try.underlying57 (by first | exact HLB.out | exact HLN _ _ _ _) rfl hU.out rfl Try.underlying62 (by kernel_rfl)) rfl ⟨_, _, b, rfl, ?_, ?_, ?_, hB.out⟩
 ·exact HG.out
 ·exact ⟨HL.out, _, _, rfl, hF.out, hG.out⟩
 ·exact ⟨_, _, _, rfl, hS.out, hP.out, by rw [← HM.out]; exact hM.out⟩
end Go.Proofs.Ytemhalnhbgkbcaa.V
end

section
namespace Go.Proofs.Ytemhalnhbgkbcaa.V
set_option maxHeartbeats 16000000 in
set_option maxRecDepth 100000 in
theorem LR (b : Bk) (hg : RG b) (kd : Int) (hkd : kd = 2 ∨ kd = 3) (n : Int) (hn : n < 9223372036854775808) (a : kz) (e7 : a.f0.size ≤ 9223372036854775807) (fE : a.f1.size ≤ 9223372036854775807) (l : List Int) (hu : ∀ x ∈ l, 0 ≤ x ∧ x < 4294967296) (hlm : l.length ≤ 9223372036854775807) (Al : Option Addr) (cl : Nat) (hcl : l.length ≤ cl) (aff : ByteArray) (hza : aff.size ≤ 9223372036854775807) (he : l = []) (v v2 : Value) (w : World) (base : Nat) (hbase : base ≤ w.heap.size) (hO : ea w base v b) (hR : eG w base v2 b) (hC : Kd.C (Kd.int .u32) w Al l.length l) :
  Calls Try.prog 47 #[v, v2, .agg #[.int .i64 kd, .int .i64 n, .string a.f0, .string a.f1, .slice Al l.length cl, .string aff]] w fun e w' => ∃ v1 v2 b', e = .returned (.tuple #[v1, v2, .bool true]) ∧ RG b' ∧ ea w' base v1 b' ∧ eG w' base v2 b' ∧ Below w.heap.size w w' := by
 obtain ⟨hl, vf, va, rfl, hf, ha⟩ := hO
 obtain ⟨vs, vp, vm, rfl, hs, hp, hm⟩ := hR
 obtain ⟨Af, cf, rfl⟩ := Kd.R_slice hf
 obtain ⟨Aa, ca, rfl⟩ := Kd.R_slice ha
 obtain ⟨As, cs, rfl⟩ := Kd.R_slice hs
 obtain ⟨Ap, cp, rfl⟩ := Kd.R_slice hp
 obtain ⟨M, hM⟩ : ∃ M, M = b.attrs.map vc := ⟨_, rfl⟩
 rw [← hM] at hm
 obtain ⟨Am, cm, rfl⟩ := Kd.R_slice hm
 have HL := ak hl
 have HM := ak hM
 have bw := ak hf
 have dY := ak ha
 have aX := ak hs
 have dT := ak hp
 have bD := ak hm
 have HG := ak hg
 have ae := ak (Below.refl w.heap.size w)
 have HBASE := ak hbase
 have HLB := ak (cg (aZ b.addr b.aff b.slots (.slice Af b.free.length cf) (.slice Aa b.attrs.length ca)) (ag _ _ _ _ _ HL.out))
 obtain ⟨lt, hlt⟩ : ∃ lt, lt = l.take 80 := ⟨_, rfl⟩
 have hut : ∀ x ∈ lt, 0 ≤ x ∧ x < 4294967296 := fun x hx => hu x (by rw [hlt] at hx; exact List.mem_of_mem_take hx)
 have hll : lt.length = min 80 l.length := by rw [hlt, List.length_take]
 have HCL := ak hcl
 have HLL := ak hll
 have HC := ak hC
 have HCT := ak (fun W (I : Below w.heap.size w W) => (show Kd.C (Kd.int .u32) W Al lt.length lt by
  rcases Nat.lt_or_ge 80 l.length with h | h
  ·have h_ := Kd.C_take (m := 80) (Kd.C_below hC I) (by omega)
   rw [← hlt] at h_
   exact h_
  ·have h_ := Kd.C_below hC I
   have e : lt = l := by rw [hlt, List.take_of_length_le h]
   rw [e]
   exact h_))
 have q0 : (kd = 0) = False := eq_false (by omega)
 have r0 : decide (kd = 0) = false := decide_eq_false (by omega)
 have u0 : (kd == 0) = false := beq_eq_false_iff_ne.mpr (by omega)
 have q1 : (kd = 1) = False := eq_false (by omega)
 have r1 : decide (kd = 1) = false := decide_eq_false (by omega)
 have u1 : (kd == 1) = false := beq_eq_false_iff_ne.mpr (by omega)
 have HKD := ak hkd
 have l0 : lt.length = 0 := by rw [hll, he]; rfl
 have y0 : decide (0 < lt.length) = false := by rw [l0]; rfl
 have y1 : decide ((0 : Int) < (lt.length : Int)) = false := by rw [l0]; rfl
 have y2 : (0 < lt.length) = False := eq_false (by rw [l0]; simp)
 clear he hkd l0
 clear hl hM hf ha hs hp hm hbase hC hu hut hll hcl hlt hg
 go_enter Try.func47, Try.ntmps47
 go_upto_if 37 with (first
  | (refine aE rfl 57 (.tmp 0) rfl _ rfl ?_; intro gX W1 J aa I; have bQ := ge ae J; have ai := ak (ae.out.trans (I.mono ae.out.size)); have bp := mv I bw; have dp := mv I dY; have bd := mv I aX; have cZ := mv I dT; have bH := mv I bD; have ah := ak (aa); clear J aa I ae bw dY aX dT bD)
  | (refine aE rfl 62 (.tmp 1) rfl _ rfl ?_; intro gY W2 J aa I; have iX := ge ai J; have fB := ne ah J; have av := mv I ai; have bT := mv I bp; have dF := mv I dp; have bC := mv I bd; have dd := mv I cZ; have b9 := mv I bH; have au := mv I ah; have b8 := ak (aa); clear J aa I ai bp dp bd cZ bH ah)
  | (refine aE rfl 79 (.tmp 2) rfl _ rfl ?_; intro gT W3 J aa I; have j9 := ge av J; have gW := ne au J; have ir := ne b8 J; have aD := mv I av; have cj := mv I bT; have dQ := mv I dF; have bU := mv I bC; have dA := mv I dd; have cN := mv I b9; have aA := mv I au; have b7 := mv I b8; have dK := ak (aa); clear J aa I av bT dF bC dd b9 au b8)
  | (refine aw (some 6) rfl rfl 57 rfl a9 bP ?_; intro gZ W4 J aa I; have bN := ge aD J; have aG := ne aA J; have fM := ne b7 J; have jC := ne dK J; have aY := mv I aD; have ch := mv I cj; have dE := mv I dQ; have cx := mv I bU; have dX := mv I dA; have cR := mv I cN; have aV := mv I aA; have bZ := mv I b7; have dP := mv I dK; have a8 := ak (aa); clear J aa I aD cj dQ bU dA cN aA b7 dK)
  | (refine aw (some 7) rfl rfl 62 rfl dG (fun _ => by kernel_rfl) ?_; intro gU W5 J aa I; have fu := ge aY J; have gC := ne aV J; have dw := ne bZ J; have jD := ne dP J; have gB := ne a8 J; have bf := mv I aY; have cb := mv I ch; have de := mv I dE; have cJ := mv I cx; have ee := mv I dX; have cG := mv I cR; have bb := mv I aV; have cB := mv I bZ; have bx := mv I dP; have bu := mv I a8; have eH := ak (aa); have jA := bx.out.cell 0 _ rfl; have gR := bx.out.cell 1 _ rfl; have jz := bx.out.cell 2 _ rfl; have jy := bx.out.cell 3 _ rfl; have jx := bx.out.cell 4 _ rfl; have gv := bx.out.cell 5 _ rfl; clear J aa I aY ch dE cx dX cR aV bZ dP a8))
 go_cut [9] from 38 to 39 (fun s9 wx => s9 = .slice Al lt.length cl ∧ W5 = wx)
 case first =>
  rcases Nat.lt_or_ge 80 l.length with k8 | k8
  ·have kZ : decide ((80 : Int) < (l.length : Int)) = true := by simp; omega
   have tJ : (((0 : Int) ≤ 80 ∧ (80 : Int) ≤ (cl : Int)) = True) := eq_true ⟨by omega, by have := HCL.out; omega⟩
   have tI : (((80 : Int) ≤ (cl : Int)) = True) := eq_true (by have := HCL.out; omega)
   go_wp2_with fail
   go_meet
   exact ⟨by rw [HLL.out, Nat.min_eq_left (by omega)], rfl⟩
  ·have kZ : decide ((80 : Int) < (l.length : Int)) = false := by simp; omega
   go_wp2_with fail
   go_meet
   exact ⟨by rw [HLL.out, Nat.min_eq_right (by omega)], rfl⟩
 case rest =>
 obtain ⟨fY, fX⟩ := hcut
 subst fY
 subst fX
 go_upto_if 96 with fail
 go_cut [96] from 97 to 98 (fun sY wx => sY = .bool true ∧ W5 = wx)
 case first =>
  rcases HKD.out with cD | cD
  ·skip
   have EC : (kd = 2) = True := eq_true (by omega)
   have K7 : decide (kd = 2) = true := by simp; omega
   have K4 : (kd == 2) = true := by simp; omega
   clear cD
   go_wp2_with fail
   go_meet
   exact ⟨by first | rfl | simp [EC], rfl⟩
  ·skip
   have EC : (kd = 2) = False := eq_false (by omega)
   have K7 : decide (kd = 2) = false := by simp; omega
   have K4 : (kd == 2) = false := by simp; omega
   have K9 : (kd = 3) = True := eq_true (by omega)
   have RQ : decide (kd = 3) = true := by simp; omega
   have RP : (kd == 3) = true := by simp; omega
   clear cD
   go_wp2_with fail
   go_meet
   exact ⟨by first | rfl | simp [K9], rfl⟩
 case rest =>
 obtain ⟨fY, fX⟩ := hcut
 subst fY
 subst fX
 go_wp2_with fail
 have aj : Below W5.heap.size W5 W5.drew := bo (Below.refl _ _)
 have bG := mv aj bf; have cQ := mv aj cb; have dt := mv aj de; have cY := mv aj cJ; have ef := mv aj ee; have dD := mv aj cG; have bh := mv aj bb; have cX := mv aj cB; have fh := mv aj bx; have bS := mv aj bu; have dW := mv aj eH
 clear aj bf cb de cJ ee cG bb cB bx bu eH jA gR jz jy jx gv
 have hB := bG
 have hF := cQ
 have hG := dt
 have hS := cY
 have hP := ef
 have hM := dD
 have hX := bh
 have hY := cX
 have hT := fh
 have hZ := bS
 have hU := dW
 clear bG cQ dt cY ef dD bh cX fh bS dW
 refine cW (n := 5) (S := fun w' => aH w' gX (aZ b.addr b.aff b.slots (.slice Af b.free.length cf) (.slice Aa b.attrs.length ca)) 57 ∧ aH w' gY (da b.addr b.aff (.slice As b.slots.length cs) (.slice Ap b.free.length cp) (.slice Am M.length cm)) 62) (ds := []) #[false, false, false, false, false] (by kernel_rfl) rfl rfl ⟨hX.out, hY.out⟩ (fun hHeld => ?_); refine bK lD.tab37 lD.bits37 (fun ab bj => ?_)
 refine tk 0 ab.out bj.out hHeld ?_ (hv := by exact fun _ aU => aI 57 (.tmp 3) rfl gX rfl _ _ _ aU.1 Try.underlying57 rfl HLB.out)
 refine tk 1 ab.out bj.out hHeld ?_ (hv := by exact fun _ aU => aI 62 (.tmp 4) rfl gY rfl _ _ _ aU.2 Try.underlying62 rfl (by kernel_rfl))
 refine ow 2 ab.out (fun K hK => ?_)
 refine bA (by rfl) rfl 57 (.tmp 6) (.tmp 235) rfl gZ (aZ b.addr b.aff b.slots (.slice Af b.free.length cf) (.slice Aa b.attrs.length ca)) rfl rfl 57 _ hZ.out 68 (by kernel_rfl) (ag _ _ _ _ _ HL.out) rfl (b4 _ _ _ _ _ rfl rfl) ?_
 intro V2 aa J; replace hB := gb hB bN J; replace hF := gr hF hZ J; replace hG := gr hG hZ J; replace hS := gr hS hZ J; replace hP := gr hP hZ J; replace hM := gr hM hZ J; replace hX := gn hX aG J; replace hY := gx hY hZ J; replace hT := gx hT hZ J; replace hU := gx hU hZ J; replace hZ := ak (aa); clear aa J
 refine hK.out _ _ ⟨hX.out, hY.out⟩ (fun hHeld => ?_)
 clear hK K
 refine ow 3 ab.out (fun K hK => ?_)
 refine bA (by rfl) rfl 62 (.tmp 7) (.tmp 236) rfl gU (da b.addr b.aff (.slice As b.slots.length cs) (.slice Ap b.free.length cp) (.slice Am M.length cm)) rfl rfl 62 _ hU.out 5 (by kernel_rfl) rfl rfl (dJ _ _ rfl rfl rfl) ?_
 intro V3 aa J; replace hB := gb hB fu J; replace hF := gr hF hU J; replace hG := gr hG hU J; replace hS := gr hS hU J; replace hP := gr hP hU J; replace hM := gr hM hU J; replace hX := gx hX hU J; replace hY := gn hY dw J; replace hT := gx hT hU J; replace hZ := gx hZ hU J; replace hU := ak (aa); clear aa J
 refine hK.out _ _ ⟨hX.out, hY.out⟩ (fun hHeld => ?_)
 clear hK K
 refine pu 4 ab.out ?_
 refine dn ab.out ?_
 clear hHeld
 go_wp2_with fail
 refine bodyPost_ret (eK rfl _ _ _ gZ gU 57 62 _ _ _ _ rfl hZ.out rfl Try.underlying57 (by first | exact HLB.out | exact HLN _ _ _ _) rfl hU.out rfl Try.underlying62 (by kernel_rfl)) rfl ⟨_, _, b, rfl, ?_, ?_, ?_, hB.out⟩
 ·exact HG.out
 ·exact ⟨HL.out, _, _, rfl, hF.out, hG.out⟩
 ·exact ⟨_, _, _, rfl, hS.out, hP.out, by rw [← HM.out]; exact hM.out⟩
set_option maxHeartbeats 16000000 in
set_option maxRecDepth 100000 in
theorem MW (b : Bk) (hg : RG b) (kd : Int) (hkd : kd = 2 ∨ kd = 3) (n : Int) (hn : n < 9223372036854775808) (a : kz) (e7 : a.f0.size ≤ 9223372036854775807) (fE : a.f1.size ≤ 9223372036854775807) (l : List Int) (hu : ∀ x ∈ l, 0 ≤ x ∧ x < 4294967296) (hlm : l.length ≤ 9223372036854775807) (Al : Option Addr) (cl : Nat) (hcl : l.length ≤ cl) (aff : ByteArray) (hza : aff.size ≤ 9223372036854775807) (he : 0 < l.length) (v v2 : Value) (w : World) (base : Nat) (hbase : base ≤ w.heap.size) (hO : ea w base v b) (hR : eG w base v2 b) (hC : Kd.C (Kd.int .u32) w Al l.length l) :
  Calls Try.prog 47 #[v, v2, .agg #[.int .i64 kd, .int .i64 n, .string a.f0, .string a.f1, .slice Al l.length cl, .string aff]] w fun e w' => ∃ v1 v2 b', e = .returned (.tuple #[v1, v2, .bool true]) ∧ RG b' ∧ ea w' base v1 b' ∧ eG w' base v2 b' ∧ Below w.heap.size w w' := by
 obtain ⟨hl, vf, va, rfl, hf, ha⟩ := hO
 obtain ⟨vs, vp, vm, rfl, hs, hp, hm⟩ := hR
 obtain ⟨Af, cf, rfl⟩ := Kd.R_slice hf
 obtain ⟨Aa, ca, rfl⟩ := Kd.R_slice ha
 obtain ⟨As, cs, rfl⟩ := Kd.R_slice hs
 obtain ⟨Ap, cp, rfl⟩ := Kd.R_slice hp
 obtain ⟨M, hM⟩ : ∃ M, M = b.attrs.map vc := ⟨_, rfl⟩
 rw [← hM] at hm
 obtain ⟨Am, cm, rfl⟩ := Kd.R_slice hm
 have HL := ak hl
 have HM := ak hM
 have bw := ak hf
 have dY := ak ha
 have aX := ak hs
 have dT := ak hp
 have bD := ak hm
 have HG := ak hg
 have ae := ak (Below.refl w.heap.size w)
 have HBASE := ak hbase
 have HLB := ak (cg (aZ b.addr b.aff b.slots (.slice Af b.free.length cf) (.slice Aa b.attrs.length ca)) (ag _ _ _ _ _ HL.out))
 obtain ⟨lt, hlt⟩ : ∃ lt, lt = l.take 80 := ⟨_, rfl⟩
 have hut : ∀ x ∈ lt, 0 ≤ x ∧ x < 4294967296 := fun x hx => hu x (by rw [hlt] at hx; exact List.mem_of_mem_take hx)
 have hll : lt.length = min 80 l.length := by rw [hlt, List.length_take]
 have HCL := ak hcl
 have HLL := ak hll
 have HC := ak hC
 have HCT := ak (fun W (I : Below w.heap.size w W) => (show Kd.C (Kd.int .u32) W Al lt.length lt by
  rcases Nat.lt_or_ge 80 l.length with h | h
  ·have h_ := Kd.C_take (m := 80) (Kd.C_below hC I) (by omega)
   rw [← hlt] at h_
   exact h_
  ·have h_ := Kd.C_below hC I
   have e : lt = l := by rw [hlt, List.take_of_length_le h]
   rw [e]
   exact h_))
 have q0 : (kd = 0) = False := eq_false (by omega)
 have r0 : decide (kd = 0) = false := decide_eq_false (by omega)
 have u0 : (kd == 0) = false := beq_eq_false_iff_ne.mpr (by omega)
 have q1 : (kd = 1) = False := eq_false (by omega)
 have r1 : decide (kd = 1) = false := decide_eq_false (by omega)
 have u1 : (kd == 1) = false := beq_eq_false_iff_ne.mpr (by omega)
 have HKD := ak hkd
 have Lv : 0 < lt.length := by omega
 obtain ⟨x, hx⟩ : ∃ x, x = lt[0] := ⟨_, rfl⟩
 have fF := hut lt[0] (List.getElem_mem Lv)
 rw [← hx] at fF
 obtain ⟨ad, hAl, hcx⟩ : ∃ ad, Al = some ad ∧ ∀ W, Below w.heap.size w W → W.cell? (ad.add 0) = some (.int .u32 x) := by
  obtain ⟨ad, eA, _⟩ := Kd.at_int (HCT.out w (Below.refl _ _)) 0 (by omega) (by omega)
  refine ⟨ad, eA, fun W hb => ?_⟩
  obtain ⟨SH, Sy, hc⟩ := Kd.at_int (HCT.out W hb) 0 (by omega) (by omega)
  have : ad = SH := Option.some.inj (eA.symm.trans Sy)
  subst this
  have h2 : rd lt 0 = x := by rw [hx]; simp [rd, List.getD, Lv]
  rw [← h2]
  exact hc
 subst hAl
 have HCX := ak hcx
 have p1 : ((0 : Int) < (lt.length : Int)) = True := eq_true (by omega)
 have p2 : (0 < lt.length) = True := eq_true (by omega)
 have p3 : decide (0 < lt.length) = true := decide_eq_true (by omega)
 have HLA := ak (fun v v2 w h1 h2 h3 => CI b hg x fF.1 fF.2 a e7 fE v v2 w base h1 h2 h3)
 clear Lv hx fF hcx he hkd
 clear hl hM hf ha hs hp hm hbase hC hu hut hll hcl hlt hg
 go_enter Try.func47, Try.ntmps47
 go_upto_if 37 with (first
  | (refine aE rfl 57 (.tmp 0) rfl _ rfl ?_; intro gX W1 J aa I; have bQ := ge ae J; have ai := ak (ae.out.trans (I.mono ae.out.size)); have bp := mv I bw; have dp := mv I dY; have bd := mv I aX; have cZ := mv I dT; have bH := mv I bD; have ah := ak (aa); clear J aa I ae bw dY aX dT bD)
  | (refine aE rfl 62 (.tmp 1) rfl _ rfl ?_; intro gY W2 J aa I; have iX := ge ai J; have fB := ne ah J; have av := mv I ai; have bT := mv I bp; have dF := mv I dp; have bC := mv I bd; have dd := mv I cZ; have b9 := mv I bH; have au := mv I ah; have b8 := ak (aa); clear J aa I ai bp dp bd cZ bH ah)
  | (refine aE rfl 79 (.tmp 2) rfl _ rfl ?_; intro gT W3 J aa I; have j9 := ge av J; have gW := ne au J; have ir := ne b8 J; have aD := mv I av; have cj := mv I bT; have dQ := mv I dF; have bU := mv I bC; have dA := mv I dd; have cN := mv I b9; have aA := mv I au; have b7 := mv I b8; have dK := ak (aa); clear J aa I av bT dF bC dd b9 au b8)
  | (refine aw (some 6) rfl rfl 57 rfl a9 bP ?_; intro gZ W4 J aa I; have bN := ge aD J; have aG := ne aA J; have fM := ne b7 J; have jC := ne dK J; have aY := mv I aD; have ch := mv I cj; have dE := mv I dQ; have cx := mv I bU; have dX := mv I dA; have cR := mv I cN; have aV := mv I aA; have bZ := mv I b7; have dP := mv I dK; have a8 := ak (aa); clear J aa I aD cj dQ bU dA cN aA b7 dK)
  | (refine aw (some 7) rfl rfl 62 rfl dG (fun _ => by kernel_rfl) ?_; intro gU W5 J aa I; have fu := ge aY J; have gC := ne aV J; have dw := ne bZ J; have jD := ne dP J; have gB := ne a8 J; have bf := mv I aY; have cb := mv I ch; have de := mv I dE; have cJ := mv I cx; have ee := mv I dX; have cG := mv I cR; have bb := mv I aV; have cB := mv I bZ; have bx := mv I dP; have bu := mv I a8; have eH := ak (aa); have jA := bx.out.cell 0 _ rfl; have gR := bx.out.cell 1 _ rfl; have jz := bx.out.cell 2 _ rfl; have jy := bx.out.cell 3 _ rfl; have jx := bx.out.cell 4 _ rfl; have gv := bx.out.cell 5 _ rfl; clear J aa I aY ch dE cx dX cR aV bZ dP a8))
 go_cut [9] from 38 to 39 (fun s9 wx => s9 = .slice (some ad) lt.length cl ∧ W5 = wx)
 case first =>
  rcases Nat.lt_or_ge 80 l.length with k8 | k8
  ·have kZ : decide ((80 : Int) < (l.length : Int)) = true := by simp; omega
   have tJ : (((0 : Int) ≤ 80 ∧ (80 : Int) ≤ (cl : Int)) = True) := eq_true ⟨by omega, by have := HCL.out; omega⟩
   have tI : (((80 : Int) ≤ (cl : Int)) = True) := eq_true (by have := HCL.out; omega)
   go_wp2_with fail
   go_meet
   exact ⟨by rw [HLL.out, Nat.min_eq_left (by omega)], rfl⟩
  ·have kZ : decide ((80 : Int) < (l.length : Int)) = false := by simp; omega
   go_wp2_with fail
   go_meet
   exact ⟨by rw [HLL.out, Nat.min_eq_right (by omega)], rfl⟩
 case rest =>
 obtain ⟨fY, fX⟩ := hcut
 subst fY
 subst fX
 go_upto_if 96 with fail
 go_cut [96] from 97 to 98 (fun sY wx => sY = .bool true ∧ W5 = wx)
 case first =>
  rcases HKD.out with cD | cD
  ·skip
   have EC : (kd = 2) = True := eq_true (by omega)
   have K7 : decide (kd = 2) = true := by simp; omega
   have K4 : (kd == 2) = true := by simp; omega
   clear cD
   go_wp2_with fail
   go_meet
   exact ⟨by first | rfl | simp [EC], rfl⟩
  ·skip
   have EC : (kd = 2) = False := eq_false (by omega)
   have K7 : decide (kd = 2) = false := by simp; omega
   have K4 : (kd == 2) = false := by simp; omega
   have K9 : (kd = 3) = True := eq_true (by omega)
   have RQ : decide (kd = 3) = true := by simp; omega
   have RP : (kd == 3) = true := by simp; omega
   clear cD
   go_wp2_with fail
   go_meet
   exact ⟨by first | rfl | simp [K9], rfl⟩
 case rest =>
 obtain ⟨fY, fX⟩ := hcut
 subst fY
 subst fX
 go_wp2_with fail
 have aj : Below W5.heap.size W5 W5.drew := bo (Below.refl _ _)
 have bG := mv aj bf; have cQ := mv aj cb; have dt := mv aj de; have cY := mv aj cJ; have ef := mv aj ee; have dD := mv aj cG; have bh := mv aj bb; have cX := mv aj cB; have fh := mv aj bx; have bS := mv aj bu; have dW := mv aj eH
 clear aj bf cb de cJ ee cG bb cB bx bu eH jA gR jz jy jx gv
 have hB := bG
 have hF := cQ
 have hG := dt
 have hS := cY
 have hP := ef
 have hM := dD
 have hX := bh
 have hY := cX
 have hT := fh
 have hZ := bS
 have hU := dW
 clear bG cQ dt cY ef dD bh cX fh bS dW
 refine cW (n := 14) (S := fun w' => aH w' gX (aZ b.addr b.aff b.slots (.slice Af b.free.length cf) (.slice Aa b.attrs.length ca)) 57 ∧ aH w' gY (da b.addr b.aff (.slice As b.slots.length cs) (.slice Ap b.free.length cp) (.slice Am M.length cm)) 62 ∧ aH w' gT [.int .i64 kd, .int .i64 n, .string a.f0, .string a.f1, .slice (some ad) l.length cl, .string aff] 79 ∧ Below w.heap.size w w') (ds := []) #[false, false, false, false, false, false, false, false, false, false, false, false, false, false] (by kernel_rfl) rfl rfl ⟨hX.out, hY.out, hT.out, hB.out⟩ (fun hHeld => ?_); refine bK qR.tab15 qR.bits15 (fun ab bj => ?_)
 refine tk 0 ab.out bj.out hHeld ?_ (hv := by exact fun _ aU => aI 57 (.tmp 3) rfl gX rfl _ _ _ aU.1 Try.underlying57 rfl HLB.out)
 refine tk 1 ab.out bj.out hHeld ?_ (hv := by exact fun _ aU => aI 62 (.tmp 4) rfl gY rfl _ _ _ aU.2.1 Try.underlying62 rfl (by kernel_rfl))
 refine pu 2 ab.out ?_
 refine pu 3 ab.out ?_
 refine tk 4 ab.out bj.out hHeld ?_ (hv := by intro w' aU; have LJ := HCX.out w' aU.2.2.2; have Us : w'.cell? ad = some (.int .u32 x) := LJ; go_simp; with_reducible rfl)
 refine pu 5 ab.out ?_
 refine tk 6 ab.out bj.out hHeld ?_ (hv := by exact fun _ aU => nw 76 (.tmp 107) rfl gT 2 rfl _ _ [.string a.f0, .string a.f1] _ aU.2.2.1 ui Try.underlying76 rfl (by kernel_rfl))
 refine on 7 ab.out (fun K hK => ?_)
 refine gs Try.func83 #[.agg (aZ b.addr b.aff b.slots (.slice Af b.free.length cf) (.slice Aa b.attrs.length ca)).toArray, .agg (da b.addr b.aff (.slice As b.slots.length cs) (.slice Ap b.free.length cp) (.slice Am M.length cm)).toArray, .int .u32 x, .agg #[.string a.f0, .string a.f1]] (HLA.out _ _ _ (lb HBASE hB) ⟨HL.out, _, _, rfl, hF.out, hG.out⟩ ⟨_, _, _, rfl, hS.out, hP.out, by rw [← HM.out]; exact hM.out⟩) ?_
 rintro e V7 ⟨v8, v9, nb, rfl, hrg, aW, fC, I⟩
 refine ⟨_, rfl, ?_⟩
 replace hB := mv I hB; replace hF := mv I hF; replace hG := mv I hG; replace hS := mv I hS; replace hP := mv I hP; replace hM := mv I hM; replace hX := mv I hX; replace hY := mv I hY; replace hT := mv I hT; replace hZ := mv I hZ; replace hU := mv I hU; have HRG := ak hrg; have HNL := ak hrg.l64; obtain ⟨iD, oP, oQ, rfl, di, dO⟩ := aW; obtain ⟨A8, c8, rfl⟩ := Kd.R_slice di; obtain ⟨A9, c9, rfl⟩ := Kd.R_slice dO; obtain ⟨tT, qE, qF, rfl, fZ, fb, ep⟩ := fC; obtain ⟨A1, c1, rfl⟩ := Kd.R_slice fZ; obtain ⟨A2, c2, rfl⟩ := Kd.R_slice fb; obtain ⟨NM, hNM⟩ : ∃ NM, NM = nb.attrs.map vc := ⟨_, rfl⟩; rw [← hNM] at ep; have HNM := ak hNM; obtain ⟨A3, c3, rfl⟩ := Kd.R_slice ep; have hC := ak di; have hD := ak dO; have hI := ak fZ; have hJ := ak fb; have hE := ak ep; clear hrg iD di dO hNM fZ fb ep I
 refine kn hK ⟨hX.out, hY.out, hT.out, hB.out⟩ (fun hHeld => ?_)
 clear hK K
 refine pu 8 ab.out ?_
 refine pu 9 ab.out ?_
 refine pu 10 ab.out ?_
 refine ow 11 ab.out (fun K hK => ?_)
 refine bA (by rfl) rfl 57 (.tmp 6) (.tmp 110) rfl gZ (aZ nb.addr nb.aff nb.slots (.slice A8 nb.free.length c8) (.slice A9 nb.attrs.length c9)) rfl rfl 57 _ hZ.out 68 (by kernel_rfl) (ag _ _ _ _ _ HNL.out) rfl (b4 _ _ _ _ _ rfl rfl) ?_
 intro oa aa J; replace hB := gb hB bN J; replace hF := gr hF hZ J; replace hG := gr hG hZ J; replace hS := gr hS hZ J; replace hP := gr hP hZ J; replace hM := gr hM hZ J; replace hX := gn hX aG J; replace hY := gx hY hZ J; replace hT := gx hT hZ J; replace hU := gx hU hZ J; replace hC := gr hC hZ J; replace hD := gr hD hZ J; replace hI := gr hI hZ J; replace hJ := gr hJ hZ J; replace hE := gr hE hZ J; replace hZ := ak (aa); clear aa J
 refine hK.out _ _ ⟨hX.out, hY.out, hT.out, hB.out⟩ (fun hHeld => ?_)
 clear hK K
 refine ow 12 ab.out (fun K hK => ?_)
 refine bA (by rfl) rfl 62 (.tmp 7) (.tmp 111) rfl gU (da nb.addr nb.aff (.slice A1 nb.slots.length c1) (.slice A2 nb.free.length c2) (.slice A3 NM.length c3)) rfl rfl 62 _ hU.out 5 (by kernel_rfl) rfl rfl (dJ _ _ rfl rfl rfl) ?_
 intro L5 aa J; replace hB := gb hB fu J; replace hF := gr hF hU J; replace hG := gr hG hU J; replace hS := gr hS hU J; replace hP := gr hP hU J; replace hM := gr hM hU J; replace hX := gx hX hU J; replace hY := gn hY dw J; replace hT := gx hT hU J; replace hZ := gx hZ hU J; replace hC := gr hC hU J; replace hD := gr hD hU J; replace hI := gr hI hU J; replace hJ := gr hJ hU J; replace hE := gr hE hU J; replace hU := ak (aa); clear aa J
 refine hK.out _ _ ⟨hX.out, hY.out, hT.out, hB.out⟩ (fun hHeld => ?_)
 clear hK K
 refine pu 13 ab.out ?_
 refine dn ab.out ?_
 clear hHeld
 have HLN := fun A8 c8 A9 c9 => cg (aZ nb.addr nb.aff nb.slots (.slice A8 nb.free.length c8) (.slice A9 nb.attrs.length c9)) (ag _ _ _ _ _ HNL.out)
 go_wp2_with fail
 refine bodyPost_ret (eK rfl _ _ _ gZ gU 57 62 _ _ _ _ rfl hZ.out rfl Try.underlying57 (by first | exact HLB.out | exact HLN _ _ _ _) rfl hU.out rfl Try.underlying62 (by kernel_rfl)) rfl ⟨_, _, nb, rfl, ?_, ?_, ?_, hB.out⟩
 ·exact HRG.out
 ·exact ⟨HNL.out, _, _, rfl, hC.out, hD.out⟩
 ·exact ⟨_, _, _, rfl, hI.out, hJ.out, by rw [← HNM.out]; exact hE.out⟩
end Go.Proofs.Ytemhalnhbgkbcaa.V
end

