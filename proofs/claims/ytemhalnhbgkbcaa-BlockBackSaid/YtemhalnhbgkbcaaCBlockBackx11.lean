/- The law BlockBack for every input: texts of ours, put together (part 12 of 16). No further condition. -/
import Derived.Test.YtemhalnhbgkbcaaCBlockBackx2
import Derived.Test.YtemhalnhbgkbcaaCBlockBackx6
import Derived.Test.YtemhalnhbgkbcaaCBlockBackx7
import Derived.Test.YtemhalnhbgkbcaaCBlockBackx10
import Derived.Test.YtemhalnhbgkbcaaCBlockBackx8
import Derived.Test.YtemhalnhbgkbcaaCBlockBackx4
import Derived.Outline
import Derived.Test.YtemhalnhbgkbcaaCBlockBackx9
import Derived.Test.YtemhalnhbgkbcaaCBlockBackx3
set_option linter.unusedVariables false
set_option linter.unusedSimpArgs false
open Go.RowKit Go.Proofs.YtemhalnhbgkbcaaW.PrintWords Go.Proofs.YtemhalnhbgkbcaaW.PrintLast Go.Proofs.YtemhalnhbgkbcaaW.PrintMore Go.Proofs.Ytemhalnhbgkbcaa.Z
section
namespace Go.Proofs.Ytemhalnhbgkbcaa.V
set_option maxHeartbeats 16000000 in
set_option maxRecDepth 100000 in
theorem D5 (b : Bk) (hk : BkOk b) (l : List Int) (hu : ∀ x ∈ l, 0 ≤ x ∧ x < 4294967296) (hll : l.length ≤ 1000) (Al : Option Addr) (cl : Nat) (hrt : dy b = false) (v : Value) (w : World) (h : gi w v b) (hC : Kd.C (Kd.int .u32) w Al l.length l) :
  Calls Try.prog 52 #[v, .slice Al l.length cl] w fun e w' => ∃ v' vo, e = .returned (.tuple #[v', vo, .int .i64 1]) ∧ ee w' w.heap.size v' jS ∧ Kd.R (Kd.int .u32) 46 w' w.heap.size (fun _ => True) vo [] ∧ Below w.heap.size w w' := by
 obtain ⟨A, c, A', c', rfl, hr⟩ := h
 have HL := ak hr.l64
 have HR := ak hr
 have HK := ak hk
 have HRT := ak hrt
 have HC := ak hC
 have ae := ak (Below.refl w.heap.size w)
 clear hr hk hrt hC
 go_enter Try.func52, Try.ntmps52
 go_wp2_with (first
  | (refine aE rfl 57 (.tmp 0) rfl _ rfl ?_; intro gX W1 J aa I; have bS := ge ae J; have aj := ak (ae.out.trans (I.mono ae.out.size)); have ah := ak (aa); clear J aa I ae)
  | (refine ax (some 4) rfl rfl 57 rfl a7 bJ ?_; intro gZ W2 J aa I; have bO := ge aj J; have aG := ne ah J; have aw := mv I aj; have au := mv I ah; have b4 := ak (aa); clear J aa I aj ah)
  | ((with_reducible refine av (N := 12) rfl ?_); go_loud (refine ay rfl 57 (.tmp 2) rfl gX rfl _ _ _ au.out Try.underlying57 rfl 68 (by kernel_rfl) (ag _ _ _ _ _ HL.out) ?_))
  | (go_at_call 48; go_loud (refine (dW b HK.out _ _ ⟨A, c, A', c', rfl, HR.out.below aw.out⟩).mono ?_; rintro e W3 ⟨rfl, I⟩; rw [HRT.out]; have aD := mv I aw; have aA := mv I au; have bQ := mv I b4; clear I aw au b4))
  | (refine fw rfl 57 #[] rfl a7 lp ?_)
  | (refine aN rfl 57 (.tmp 4) (.tmp 15) rfl gZ a7 rfl rfl 57 _ bQ.out 68 (by kernel_rfl) rfl rfl ja ?_; intro W4 aa J; have aW := gb aD bO J; have aV := gn aA aG J; have bb := ak (aa); clear aa J aD aA bQ))
 exact bodyPost_ret (iq rfl _ _ gZ 57 _ (0, 0) _ rfl bb.out Try.underlying57 rfl (by simp only [List.size_toArray]; exact b9 _ rfl)) rfl ⟨_, _, rfl, m2 _ _, Kd.R_nil _ _ _ _ _, aW.out⟩
set_option maxHeartbeats 16000000 in
set_option maxRecDepth 100000 in
theorem oP (b : Bk) (hk : BkOk b) (l : List Int) (hu : ∀ x ∈ l, 0 ≤ x ∧ x < 4294967296) (hll : l.length ≤ 1000) (Al : Option Addr) (cl : Nat) (hrt : dy b = true) (v : Value) (w : World) (h : gi w v b) (hC : Kd.C (Kd.int .u32) w Al l.length l) :
  Calls Try.prog 52 #[v, .slice Al l.length cl] w fun e w' => ∃ v' vo, e = .returned (.tuple #[v', vo, .int .i64 0]) ∧ ee w' w.heap.size v' (kz b l) ∧ Kd.R (Kd.int .u32) 46 w' w.heap.size (fun _ => True) vo (relL b l).2 ∧ Below w.heap.size w w' := by
 obtain ⟨A, c, A', c', rfl, hr⟩ := h
 have HL := ak hr.l64
 have HR := ak hr
 have HK := ak hk
 have HRT := ak hrt
 have HC := ak hC
 have ae := ak (Below.refl w.heap.size w)
 have hp := iA hrt
 have hsum := hp.sum_le hk hr.l64
 have hrk := sQ hk hp hr.l64 l
 have HRK := ak hrk
 have HFL := ak (show b.free.length ≤ 64 by omega)
 have hal : b.attrs.length ≤ 64 := by omega
 have HAL := ak hal
 have HCP := ak (ml b (by omega) (by omega))
 have HU := ak hu
 have HCL := ak (wP b l)
 clear hr hk hrt hC hp hsum hrk hu
 go_enter Try.func52, Try.ntmps52
 go_wp2_with (first
  | (refine aE rfl 57 (.tmp 0) rfl _ rfl ?_; intro gX W1 J aa I; have bS := ge ae J; have aj := ak (ae.out.trans (I.mono ae.out.size)); have ah := ak (aa); clear J aa I ae)
  | (refine ax (some 4) rfl rfl 57 rfl a7 bJ ?_; intro gZ W2 J aa I; have bO := ge aj J; have aG := ne ah J; have aw := mv I aj; have au := mv I ah; have b4 := ak (aa); clear J aa I aj ah)
  | ((with_reducible refine av (N := 12) rfl ?_); go_loud (refine ay rfl 57 (.tmp 2) rfl gX rfl _ _ _ au.out Try.underlying57 rfl 68 (by kernel_rfl) (ag _ _ _ _ _ HL.out) ?_))
  | (go_at_call 48; go_loud (refine (dW b HK.out _ _ ⟨A, c, A', c', rfl, HR.out.below aw.out⟩).mono ?_; rintro e W3 ⟨rfl, I⟩; rw [HRT.out]; have aD := mv I aw; have aA := mv I au; have bQ := mv I b4; clear I aw au b4))
  | ((with_reducible refine av (N := 16) rfl ?_); go_loud (refine ay rfl 57 (.tmp 2) rfl gX rfl _ _ _ aA.out Try.underlying57 rfl 68 (by kernel_rfl) (ag _ _ _ _ _ HL.out) ?_))
  | (go_at_call 89; go_loud (refine (HCP.out _ _ ⟨A, c, A', c', rfl, HR.out.below aD.out⟩).mono ?_; rintro e W4 ⟨v5, rfl, uE, I⟩; obtain ⟨uG, vf, va, rfl, lT, lX⟩ := uE; obtain ⟨Af, cf, rfl⟩ := Kd.R_slice lT; obtain ⟨Aa, ca, rfl⟩ := Kd.R_slice lX; have HSZ := ak aD.out.size; have aW := mv I aD; have aV := mv I aA; have bb := mv I bQ; have cd := ak (lT); have dB := ak (lX); have cP := ak (I.size); clear uG lT lX I aD aA bQ))
  | (refine aN rfl 57 (.tmp 2) (.tmp 17) rfl gX (aX b.addr b.aff b.slots (.slice Af b.free.length cf) (.slice Aa b.attrs.length ca)) rfl rfl 57 _ aV.out 68 (by kernel_rfl) (ag _ _ _ _ _ HL.out) (ag _ _ _ _ _ HL.out) (bZ _ _ _ _ _ rfl rfl) ?_; intro W5 aa J; have bf := gb aW bS J; have a9 := ak (aa); have bu := gm bb aG J; have b8 := gr cd aV J; have cW := gr dB aV J; have cY := ak (Nat.le_trans cP.out J.size); clear aa J aW aV bb cd dB cP))
 obtain ⟨b1, cA⟩ : ∃ b1, b1 = W3.heap.size := ⟨_, rfl⟩
 rw [← cA] at b8 cW cY HSZ
 have cn := ak (show w.heap.size ≤ b1 from HSZ.out)
 clear cA HSZ
 go_loopw [7, 9, 10, 11, 20, 24] (fun q _ _ _ i _ W => ∃ k : Nat, k ≤ l.length ∧ i = .int .i64 k ∧ Aside0 (OC W b1 gX (relL b (l.take k)).1) ∧ Aside0 (Kd.R (Kd.int .u32) 46 W w.heap.size (fun _ => True) q (relL b (l.take k)).2) ∧ Aside0 (aH W gZ a7 57) ∧ Aside0 (b1 ≤ W.heap.size) ∧ Aside0 (Below w.heap.size w W)) (fun _ _ _ _ i _ _ => l.length - (intOf i).toNat)
 case atStart => exact ⟨0, by omega, rfl, ⟨HL.out, _, _, a9.out, b8.out, cW.out⟩, ⟨Kd.R_nil _ _ _ _ _⟩, bu, cY, bf⟩
 case round =>
  clear bf a9 bu b8 cW cY
  obtain ⟨k, hk, rfl, aI, bx, bA, aZ, ae⟩ := hrel
  obtain ⟨W, rfl⟩ : ∃ W : World, W = wr := ⟨_, rfl⟩
  have hro := HRK.out k hk
  by_cases hkn : k < l.length
  ·have hkb : decide ((k : Int) < (l.length : Int)) = true := by simp; omega
   obtain ⟨ad, eA, hx⟩ := Kd.at_int (Kd.C_below HC.out ae.out) k (by omega) (by omega)
   cases eA
   rw [Int.toNat_natCast] at hx
   have p1 : ((k : Int) < (l.length : Int)) = True := eq_true (by omega)
   have hrd : rd l k = l[k] := by simp [rd, List.getD, hkn]
   have jg := HU.out _ (List.getElem_mem hkn)
   obtain ⟨x, hxx⟩ : ∃ x, l[k] = x := ⟨_, rfl⟩
   rw [hxx] at hrd jg
   rw [hrd] at hx
   have hsu := zm b l k hkn x hxx
   obtain ⟨rs, hrs⟩ : ∃ rs, rs = relL b (l.take k) := ⟨_, rfl⟩
   rw [← hrs] at hro hsu aI bx
   have hol := hro.ol
   have hfl := hro.fl
   have hbk : BkOk rs.1 := ⟨by rw [hro.addr]; exact HK.out.a0, by rw [hro.addr]; exact HK.out.a1, hro.s8, hro.f8⟩
   have hpl := fun v w h => uw rs.1 hbk x jg.1 jg.2 v w h
   have HSU := ak hsu
   have HLM := ak hro.l64
   obtain ⟨bm, oo⟩ := rs
   simp only at hol hfl hpl aI bx HLM
   obtain ⟨Ao, co, rfl⟩ := Kd.R_slice bx.out
   obtain ⟨A1, c1, A2, c2, Bs, mW, kQ⟩ := aI.out.open
   have HOL := ak (show oo.length ≤ 1000 by omega)
   have HFLN := ak (show bm.free.length ≤ 2000 by have := HFL.out; omega)
   have HXX := ak Bs
   have jN := ak mW
   have kb := ak kQ
   clear hro Bs mW kQ hrs hrd hxx hsu hbk hol hfl aI
   by_cases hpb : bN x = bm.addr
   ·rw [if_pos hpb, decide_eq_true hpb] at hpl
    have hj : (x - bm.addr).toNat < 64 ∧ ((x - bm.addr).toNat : Int) = x - bm.addr := by
     unfold bN at hpb
     omega
    obtain ⟨j, hjq⟩ : ∃ j : Nat, j = (x - bm.addr).toNat := ⟨_, rfl⟩
    rw [← hjq] at hj
    rw [← hj.2] at hpl
    have m7 : j < 64 := hj.1
    have pj : ((j : Int) < 64) = True := eq_true (by omega)
    have HPL := ak hpl
    obtain ⟨m, hm⟩ : ∃ m, bm.slots.getD j 0 = m := ⟨_, rfl⟩
    have hhit : fy bm x = (m != 0) := by
     unfold fy
     rw [decide_eq_true hpb, ← hjq, hm, Bool.true_and]
    have HM := ak hm
    have HJ := ak hj.2
    by_cases mE : m = 0
    ·subst mE
     have HEQ := ak (show relL b (l.take (k + 1)) = (bm, oo) by rw [HSU.out]; unfold relF; rw [if_neg (by rw [hhit]; decide)])
     clear hpb hj hpl hjq hm hhit
     go_wp2_with (first
      | ((with_reducible refine av (N := 25) rfl ?_); go_loud (refine ay rfl 57 (.tmp 2) rfl gX rfl _ _ _ HXX.out Try.underlying57 rfl 68 (by kernel_rfl) (ag _ _ _ _ _ HLM.out) ?_))
      | (go_at_call 92; go_loud (refine (HPL.out _ _ ⟨A1, c1, A2, c2, rfl, ⟨HLM.out, (rr jN).1, (rr jN).2, (rr kb).1, (rr kb).2⟩⟩).mono ?_; rintro e W1 ⟨rfl, I⟩; have ah := mv I HXX; have bg := mv I jN; have cH := mv I kb; have b7 := mv I bx; have bR := mv I bA; have bd := ak (Nat.le_trans aZ.out I.size); have aj := ak (ae.out.trans (I.mono ae.out.size)); have MO := (show W1.cell? ⟨gX, 2 + j, none⟩ = some (.int .u8 0) from by have h_ := ah.out.slot HLM.out j m7; rwa [HM.out] at h_); have MP := ah.out.frozen (2 + j); clear I HXX jN kb bx bA aZ ae)))
     go_roundw
     case rel => exact ⟨k + 1, by omega, by go_num, ⟨by rw [HEQ.out]; exact ⟨HLM.out, _, _, ah.out, bg.out, cH.out⟩⟩, ⟨by rw [HEQ.out]; exact b7.out⟩, bR, bd, aj⟩
     case measure => simp [intOf]; omega
    ·have uF : (m == 0) = false := by rw [beq_eq_false_iff_ne]; exact mE
     have HEQ := ak (show relL b (l.take (k + 1)) = (⟨bm.addr, bm.aff, bm.slots.set j 0, bm.free ++ [(j : Int)], bm.attrs⟩, oo ++ [x]) by
      rw [HSU.out]
      unfold relF
      rw [if_pos (by rw [hhit]; simpa using mE)]
      rw [← hjq, hj.2])
     clear hpb hj hpl hjq hm hhit mE
     obtain ⟨fr, hfr⟩ : ∃ fr, fr = bm.free ++ [(j : Int)] := ⟨_, rfl⟩
     obtain ⟨o1, fh⟩ : ∃ o1, o1 = oo ++ [x] := ⟨_, rfl⟩
     rw [← hfr, ← fh] at HEQ
     have HFR := ak hfr
     have kk := ak fh
     clear hfr fh
     go_wp2_with (first
      | ((with_reducible refine av (N := 25) rfl ?_); go_loud (refine ay rfl 57 (.tmp 2) rfl gX rfl _ _ _ HXX.out Try.underlying57 rfl 68 (by kernel_rfl) (ag _ _ _ _ _ HLM.out) ?_))
      | (go_at_call 92; go_loud (refine (HPL.out _ _ ⟨A1, c1, A2, c2, rfl, ⟨HLM.out, (rr jN).1, (rr jN).2, (rr kb).1, (rr kb).2⟩⟩).mono ?_; rintro e W1 ⟨rfl, I⟩; have ah := mv I HXX; have bg := mv I jN; have cH := mv I kb; have b7 := mv I bx; have bR := mv I bA; have bd := ak (Nat.le_trans aZ.out I.size); have aj := ak (ae.out.trans (I.mono ae.out.size)); have MO := (show W1.cell? ⟨gX, 2 + j, none⟩ = some (.int .u8 m) from by have h_ := ah.out.slot HLM.out j m7; rwa [HM.out] at h_); have MP := ah.out.frozen (2 + j); clear I HXX jN kb bx bA aZ ae))
      | ((with_reducible refine av (N := 42) rfl ?_); go_loud (generalize bW : W1.setCell ⟨gX, 2 + j, none⟩ (.int .u8 0) = W2; have J : W1.grownBy W2 (some gX) := (by rw [← bW]; exact bP _ _ _ _); have au := ak (ah.out.set (2 + j) (.int .u8 0)); have bM := gr bg ah J; have dh := gr cH ah J; have ct := gr b7 ah J; have b4 := gm bR aG J; have bF := ak (Nat.le_trans bd.out J.size); have aw := gb aj bS J; rw [bW] at au; clear bW J ah bg cH b7 bR bd aj MO MP; rw [qG _ _ _ _ _ HLM.out j m7] at au; have EG := ak (show (bm.slots.set j 0).length = 64 by rw [List.length_set]; exact HLM.out); have Ir := au.out.cell 66 _ (fR _ _ _ _ _ EG.out)))
      | ((with_reducible refine cC (b := .append) (xs := #[.tmp 43, .tmp 46]) rfl ?_); at_builtin; go_loud (refine Kd.R_append (Kd.int .u8) (w0 := W2) b1 rfl (.tmp 43) (.tmp 46) 48 5 (.int .u8 0) 1 rfl Try.underlying48 yS rfl (by decide) (by omega) _ bm.free (j : Int) [.int .u8 (j : Int)] (fun _ => True) (fun _ => False) rfl rfl rfl (fun _ hk => hk.elim) (fun _ _ => trivial) bM.out (Below.refl _ _) bF.out (by have := HFLN.out; omega) ?_; intro v_ W3 aU I J fu; rw [← HFR.out] at aU; have aA := ak (au.out.grown J (au.out.ne_row bM.out (by decide))); have cg := ak (aU); have dL := ak (Kd.R_over dh.out bM.out (by decide) J); have eN := ak (Kd.R_over ct.out bM.out (by decide) J); have bQ := ak (b4.out.grown J (b4.out.ne_row bM.out (by decide))); have b6 := ak (Nat.le_trans bF.out J.size); have aD := ak (aw.out.trans (I.mono cn.out)); obtain ⟨AF, cF, rfl⟩ := Kd.R_slice aU; have MZ := aA.out.cell 66 _ (fR _ _ _ _ _ EG.out); have N5 := aA.out.frozen 66; clear aU I J fu au bM dh ct b4 bF aw Ir))
      | ((with_reducible refine cC (b := .append) (xs := #[.tmp 49, .tmp 51]) rfl ?_); at_builtin; go_loud (generalize bW : W3.setCell ⟨gX, 66, none⟩ (.slice AF fr.length cF) = W4; have mU : W3.heap.size = W4.heap.size := (by rw [← bW]; simp [World.setCell]); have J : W3.grownBy W4 (some gX) := (by rw [← bW]; exact bP _ _ _ _); have aV := ak (aA.out.set 66 (.slice AF fr.length cF)); have cd := gr cg aA J; have dB := gr dL aA J; have kP := gr eN aA J; have bb := gm bQ aG J; have cP := ak (Nat.le_trans b6.out J.size); have aW := gb aD bS J; rw [bW] at aV; clear bW J aA cg dL eN bQ b6 aD MZ N5; rw [kW _ _ _ _ _ EG.out] at aV; refine Kd.R_append (Kd.int .u32) (w0 := w) w.heap.size rfl (.tmp 49) (.tmp 51) 77 46 (.int .u32 0) 4 rfl Try.underlying77 iM rfl (by decide) (by omega) _ oo x [.int .u32 x] (fun _ => True) (fun _ => False) rfl (congrArg (fun n_ => Value.slice (some ⟨n_, 0, none⟩) 1 1) mU) rfl (fun _ hk => hk.elim) (fun _ _ => trivial) kP.out aW.out aW.out.size (by have := HOL.out; omega) ?_; intro v_ W5 aU I J fu; rw [← kk.out] at aU; have a9 := ak (aV.out.grown J (aV.out.ne_row kP.out (by decide))); have b8 := ak (Kd.R_over cd.out kP.out (by decide) J); have cW := ak (Kd.R_over dB.out kP.out (by decide) J); have wD := ak (aU); have bu := ak (bb.out.grown J (bb.out.ne_row kP.out (by decide))); have cY := ak (Nat.le_trans cP.out J.size); have bf := ak (I); obtain ⟨AO, cO, rfl⟩ := Kd.R_slice aU; clear aU I J fu mU aV cd dB kP bb cP aW)))
     go_roundw
     case rel => exact ⟨k + 1, by omega, by go_num, ⟨by rw [HEQ.out]; exact ⟨EG.out, _, _, a9.out, b8.out, cW.out⟩⟩, ⟨by rw [HEQ.out]; exact wD.out⟩, bu, cY, bf⟩
     case measure => simp [intOf]; omega
   ·rw [if_neg hpb, decide_eq_false hpb] at hpl
    have HPL := ak hpl
    have HEQ := ak (show relL b (l.take (k + 1)) = (bm, oo) by
     rw [HSU.out]
     unfold relF
     rw [if_neg (by unfold fy; rw [decide_eq_false hpb]; simp)])
    clear hpb hpl
    go_wp2_with (first
     | ((with_reducible refine av (N := 25) rfl ?_); go_loud (refine ay rfl 57 (.tmp 2) rfl gX rfl _ _ _ HXX.out Try.underlying57 rfl 68 (by kernel_rfl) (ag _ _ _ _ _ HLM.out) ?_))
     | (go_at_call 92; go_loud (refine (HPL.out _ _ ⟨A1, c1, A2, c2, rfl, ⟨HLM.out, (rr jN).1, (rr jN).2, (rr kb).1, (rr kb).2⟩⟩).mono ?_; rintro e W1 ⟨rfl, I⟩; have ah := mv I HXX; have bg := mv I jN; have cH := mv I kb; have b7 := mv I bx; have bR := mv I bA; have bd := ak (Nat.le_trans aZ.out I.size); have aj := ak (ae.out.trans (I.mono ae.out.size)); clear I HXX jN kb bx bA aZ ae)))
    go_roundw
    case rel => exact ⟨k + 1, by omega, by go_num, ⟨by rw [HEQ.out]; exact ⟨HLM.out, _, _, ah.out, bg.out, cH.out⟩⟩, ⟨by rw [HEQ.out]; exact b7.out⟩, bR, bd, aj⟩
    case measure => simp [intOf]; omega
  ·obtain rfl : k = l.length := by omega
   have hkb : decide ((l.length : Int) < (l.length : Int)) = false := by simp
   rw [List.take_of_length_le (Nat.le_refl l.length)] at hro aI bx
   have HBR := ak (show kz b l = kC (relL b l).1 from rfl)
   obtain ⟨rs, hrs⟩ : ∃ rs, rs = relL b l := ⟨_, rfl⟩
   have HRS := ak hrs
   rw [← hrs] at hro aI bx HBR
   obtain ⟨bm, oo⟩ := rs
   simp only at aI bx HBR
   have HCM := ak (fun v w base lW h => C9 bm hro.s8 (by rw [hro.attrs]; exact HAL.out) (fun s hs => by rw [hro.attrs]; exact hro.le s hs) v w base lW h)
   have HLM := ak hro.l64
   simp only at HLM
   obtain ⟨Ao, co, rfl⟩ := Kd.R_slice bx.out
   obtain ⟨A1, c1, A2, c2, Bs, mW, kQ⟩ := aI.out.open
   have HXX := ak Bs
   have jN := ak mW
   have kb := ak kQ
   clear hro Bs mW kQ hrs aI
   go_wp2_with (first
    | ((with_reducible refine av (N := 54) rfl ?_); go_loud (refine ay rfl 57 (.tmp 2) rfl gX rfl _ _ _ HXX.out Try.underlying57 rfl 68 (by kernel_rfl) (ag _ _ _ _ _ HLM.out) ?_))
    | (go_at_call 95; go_loud (refine (HCM.out _ _ b1 aZ.out ⟨HLM.out, _, _, rfl, jN.out, kb.out⟩).mono ?_; rintro e W1 ⟨v9, rfl, fF, I⟩; obtain ⟨zz, qN, qO, rfl, fm, ez⟩ := fF; obtain ⟨A8, c8, rfl⟩ := Kd.R_slice fm; obtain ⟨A9, c9, rfl⟩ := Kd.R_slice ez; have vk := ak zz; have ah := mv I HXX; have b7 := mv I bx; have bR := mv I bA; have bd := ak (Nat.le_trans aZ.out I.size); have aj := ak (ae.out.trans (I.mono ae.out.size)); have dc := ak (fm); have n2 := ak (ez); clear zz fm ez I HXX bx bA aZ ae))
    | (refine aN rfl 57 (.tmp 4) (.tmp 55) rfl gZ (aX (kC bm).addr (kC bm).aff (kC bm).slots (.slice A8 (kC bm).free.length c8) (.slice A9 (kC bm).attrs.length c9)) rfl rfl 57 _ bR.out 68 (by kernel_rfl) (ag _ _ _ _ _ vk.out) rfl (bZ _ _ _ _ _ rfl rfl) ?_; intro W2 aa J; have au := gn ah aG J; have ct := gr b7 bR J; have b4 := ak (aa); have bF := ak (Nat.le_trans bd.out J.size); have aw := gb aj bO J; have dp := gr dc bR J; have wC := gr n2 bR J; clear aa J ah b7 bR bd aj dc n2))
   refine bodyPost_ret (iq rfl _ _ gZ 57 _ (0, 0) _ rfl b4.out Try.underlying57 rfl (by simp only [List.size_toArray]; exact b9 _ (ag _ _ _ _ _ vk.out))) rfl ⟨_, _, rfl, ?_, by rw [← HRS.out]; exact ct.out, aw.out⟩
   rw [HBR.out]
   exact ⟨vk.out, _, _, rfl, Kd.R_lower dp.out cn.out, Kd.R_lower wC.out cn.out⟩
theorem vP (b : Bk) (hk : BkOk b) (l : List Int) (hu : ∀ x ∈ l, 0 ≤ x ∧ x < 4294967296) (hll : l.length ≤ 1000) (Al : Option Addr) (cl : Nat) (v : Value) (w : World) (h : gi w v b) (hC : Kd.C (Kd.int .u32) w Al l.length l) :
  Calls Try.prog 52 #[v, .slice Al l.length cl] w fun e w' => ∃ v' vo, e = .returned (.tuple #[v', vo, .int .i64 (if dy b = true then 0 else 1)]) ∧ ee w' w.heap.size v' (if dy b = true then kz b l else jS) ∧ Kd.R (Kd.int .u32) 46 w' w.heap.size (fun _ => True) vo (if dy b = true then (relL b l).2 else []) ∧ Below w.heap.size w w' := by
 cases hrt : dy b with
 | false => exact D5 b hk l hu hll Al cl hrt v w h hC
 | true => exact oP b hk l hu hll Al cl hrt v w h hC
end Go.Proofs.Ytemhalnhbgkbcaa.V
end

section
namespace Go.Proofs.Ytemhalnhbgkbcaa.V
theorem lN {b : Bk} (hk : BkOk b) (hf : bN b.addr = b.addr) (p : At → Bool) : ∀ x ∈ dH b p 64, 0 ≤ x ∧ x < 4294967296 := by
 intro x hx
 unfold dH at hx
 obtain ⟨i, hi, rfl⟩ := List.mem_map.1 hx
 have h1 := List.mem_range.1 (List.mem_filter.1 hi).1
 have h2 := hk.a0
 have h3 := hk.a1
 unfold bN at hf
 omega
def ky.T3 : Bool × List (List Nat × List Nat) := (true, [([], []), ([], []), ([], []), ([1, 2], [1, 2]), ([0, 3, 3], [0, 3]), ([4], [4]), ([4], [4]), ([4], [4]), ([5, 4, 0, 1, 2, 3, 4, 5, 6, 7], [5]), ([6, 8, 0, 1, 2, 3, 4, 5, 6, 7, 8], [6]), ([7, 9, 0, 1, 2, 3, 4, 5, 6, 7, 8, 9], [7])])
def ky.B3 : List Nat := [0, 0, 0, 6, 15, 31, 31, 31, 255, 511, 1023]
theorem ky.tab3 : dP .any (opsOf Try.f53 3) = ky.T3 := by kernel_rfl
theorem ky.bits3 : dr ky.T3.2 ky.B3 = true := by kernel_rfl
set_option maxHeartbeats 16000000 in
set_option maxRecDepth 100000 in
theorem zS (b : Bk) (hk : BkOk b) (id : ByteArray) (hrt : dy b = true) (v : Value) (w : World) (h : gi w v b) :
  Calls Try.prog 53 #[v, .string id] w fun e w' => ∃ v' vo, e = .returned (.tuple #[v', vo, .int .i64 0]) ∧ ee w' w.heap.size v' (kz b (dH b (fun a => a.f0.toList == id.toList) 64)) ∧ Kd.R (Kd.int .u32) 46 w' w.heap.size (fun _ => True) vo (relL b (dH b (fun a => a.f0.toList == id.toList) 64)).2 ∧ Below w.heap.size w w' := by
 obtain ⟨A, c, A', c', rfl, hr⟩ := h
 have HL := ak hr.l64
 have HR := ak hr
 have HK := ak hk
 have HRT := ak hrt
 have ae := ak (Below.refl w.heap.size w)
 have HP := ak (iA hrt)
 clear hr hk hrt
 go_enter Try.func53, Try.ntmps53
 go_wp2_with (first
  | (refine aE rfl 57 (.tmp 0) rfl _ rfl ?_; intro gX W1 J aa I; have bS := ge ae J; have aj := ak (ae.out.trans (I.mono ae.out.size)); have ah := ak (aa); clear J aa I ae)
  | ((with_reducible refine av (N := 4) rfl ?_); go_loud (obtain ⟨gI, J⟩ : ∃ g_, g_ = W1.heap.size := ⟨_, rfl⟩; rw [← J]; generalize bW : W1.alloc (.cells #[.string id] 9) = W2; have I : Below W1.heap.size W1 W2 := (by rw [← bW]; exact al (Below.refl _ _) _); have aa : aH W2 gI [.string id] 9 := (by rw [← bW, J]; exact heap_alloc_new W1 _); have fO : W1.heap.size ≤ gI := Nat.le_of_eq J.symm; have vJ := ge aj fO; have l7 := ne ah fO; have aw := mv I aj; have au := mv I ah; have oI := ak (aa); clear bW I aa fO J aj ah; refine ax (some 4) rfl rfl 57 rfl a7 bJ ?_; intro gZ W3 J aa I; have bO := ge aw J; have aG := ne au J; have H0 := ne oI J; have aD := mv I aw; have aA := mv I au; have mM := mv I oI; have bQ := ak (aa); clear J aa I aw au oI))
  | ((with_reducible refine av (N := 7) rfl ?_); go_loud (refine ay rfl 57 (.tmp 2) rfl gX rfl _ _ _ aA.out Try.underlying57 rfl 68 (by kernel_rfl) (ag _ _ _ _ _ HL.out) ?_))
  | (go_at_call 48; go_loud (refine (dW b HK.out _ _ ⟨A, c, A', c', rfl, HR.out.below aD.out⟩).mono ?_; rintro e W4 ⟨rfl, I⟩; rw [HRT.out]; have aW := mv I aD; have aV := mv I aA; have n7 := mv I mM; have bb := mv I bQ; clear I aD aA mM bQ)))
 have ai : Below W4.heap.size W4 W4.drew := bp (Below.refl _ _)
 have bf := mv ai aW; have a9 := mv ai aV; have il := mv ai n7; have bu := mv ai bb
 clear ai aW aV n7 bb
 have HLL := ak (b9 (aX b.addr b.aff b.slots (.slice A b.free.length c) (.slice A' b.attrs.length c')) (ag _ _ _ _ _ HL.out))
 refine da (n := 11) (S := fun w' => aH w' gX (aX b.addr b.aff b.slots (.slice A b.free.length c) (.slice A' b.attrs.length c')) 57) (ds := []) #[false, false, false, false, false, false, false, false, false, false, false] (by kernel_rfl) rfl rfl a9.out (fun hHeld => ?_); refine bK ky.tab3 ky.bits3 (fun ab bq => ?_)
 refine tk 0 ab.out bq.out hHeld ?_ (hv := by exact fun _ aY => aJ 57 (.tmp 2) rfl gX rfl _ _ _ aY Try.underlying57 rfl HLL.out)
 refine tk 1 ab.out bq.out hHeld ?_ (hv := by exact fun _ aY => aJ 57 (.tmp 2) rfl gX rfl _ _ _ aY Try.underlying57 rfl HLL.out)
 refine pu 2 ab.out ?_
 refine on 3 ab.out (fun K hK => ?_)
 refine gs Try.func96 #[.agg (aX b.addr b.aff b.slots (.slice A b.free.length c) (.slice A' b.attrs.length c')).toArray, .func (.func 97) #[] #[.pointer (some ⟨gI, 0, none⟩)]] (CR b HK.out HP.out _ _ ⟨A, c, A', c', rfl, HR.out.below bf.out⟩ id gI il.out) ?_
 rintro e V1 ⟨vo, rfl, aU, I⟩
 refine ⟨_, rfl, ?_⟩
 obtain ⟨U, hU⟩ : ∃ U, U = dH b (fun a => a.f0.toList == id.toList) 64 := ⟨_, rfl⟩; rw [← hU] at aU; have HU := ak hU; obtain ⟨Au, cu, rfl⟩ := Kd.R_slice aU; have bD := mv I bf; have bj := mv I a9; have jK := mv I il; have bT := mv I bu; have dX := ak (aU); clear hU aU I bf a9 il bu
 refine kn hK bj.out (fun hHeld => ?_)
 clear hK K
 refine on 4 ab.out (fun K hK => ?_)
 refine gs Try.func52 #[.agg (aX b.addr b.aff b.slots (.slice A b.free.length c) (.slice A' b.attrs.length c')).toArray, .slice Au U.length cu] (oP b HK.out U (by rw [HU.out]; exact lN HK.out HP.out.first _) (by rw [HU.out]; have := gP b (fun a => a.f0.toList == id.toList) 64; omega) Au cu HRT.out _ _ ⟨A, c, A', c', rfl, HR.out.below bD.out⟩ (Kd.R_reads' dX.out).2.2) ?_
 rintro e V2 ⟨v9, vq, rfl, fF, eC, I⟩
 refine ⟨_, rfl, ?_⟩
 obtain ⟨nb, hnb⟩ : ∃ nb, nb = kz b U := ⟨_, rfl⟩; obtain ⟨nq, hnq⟩ : ∃ nq, nq = (relL b U).2 := ⟨_, rfl⟩; rw [← hnb] at fF; rw [← hnq] at eC; have HNB := ak hnb; have HNQ := ak hnq; obtain ⟨zz, qN, qO, rfl, fm, ez⟩ := fF; obtain ⟨A8, c8, rfl⟩ := Kd.R_slice fm; obtain ⟨A9, c9, rfl⟩ := Kd.R_slice ez; obtain ⟨Aq, cq, rfl⟩ := Kd.R_slice eC; have vk := ak zz; have HSZ := ak (show w.heap.size ≤ V1.heap.size from bD.out.size); have dR := mv I bD; have df := mv I bj; have jR := mv I jK; have dI := mv I bT; have eS := ak (fm); have iz := ak (ez); have k9 := ak (eC); clear hnb hnq zz fm ez eC I bD bj jK bT
 refine kn hK df.out (fun hHeld => ?_)
 clear hK K
 refine pu 5 ab.out ?_
 refine pu 6 ab.out ?_
 refine pu 7 ab.out ?_
 refine ow 8 ab.out (fun K hK => ?_)
 refine bz (by rfl) rfl 57 (.tmp 4) (.tmp 16) rfl gZ (aX nb.addr nb.aff nb.slots (.slice A8 nb.free.length c8) (.slice A9 nb.attrs.length c9)) rfl rfl 57 _ dI.out 68 (by kernel_rfl) (ag _ _ _ _ _ vk.out) rfl (bZ _ _ _ _ _ rfl rfl) ?_
 intro V3 aa J; have gO := gb dR bO J; have gN := gn df aG J; have wF := gx jR dI J; have fI := ak (aa); have ko := gr eS dI J; have km := gr iz dI J; have pB := gr k9 dI J; clear aa J dR df jR dI eS iz k9
 refine hK.out _ _ gN.out (fun hHeld => ?_)
 clear hK K
 refine pu 9 ab.out ?_
 refine pu 10 ab.out ?_
 refine dn ab.out ?_
 try go_wp2
 refine bodyPost_ret (iq rfl _ _ gZ 57 _ (0, 0) _ rfl fI.out Try.underlying57 rfl (by simp only [List.size_toArray]; exact b9 _ (ag _ _ _ _ _ vk.out))) rfl ⟨_, _, rfl, ?_, ?_, gO.out⟩
 ·rw [← HU.out, ← HNB.out]; exact ⟨vk.out, _, _, rfl, Kd.R_lower ko.out HSZ.out, Kd.R_lower km.out HSZ.out⟩
 ·rw [← HU.out, ← HNQ.out]; exact Kd.R_lower pB.out HSZ.out
def lO.T3 : Bool × List (List Nat × List Nat) := (true, [([], []), ([], []), ([], []), ([1, 2], [1, 2]), ([0, 3, 3], [0, 3]), ([4], [4]), ([4], [4]), ([4], [4]), ([5, 4, 0, 1, 2, 3, 4, 5, 6, 7], [5]), ([6, 8, 0, 1, 2, 3, 4, 5, 6, 7, 8], [6]), ([7, 9, 0, 1, 2, 3, 4, 5, 6, 7, 8, 9], [7])])
def lO.B3 : List Nat := [0, 0, 0, 6, 15, 31, 31, 31, 255, 511, 1023]
theorem lO.tab3 : dP .any (opsOf Try.f54 3) = lO.T3 := by kernel_rfl
theorem lO.bits3 : dr lO.T3.2 lO.B3 = true := by kernel_rfl
set_option maxHeartbeats 16000000 in
set_option maxRecDepth 100000 in
theorem CX (b : Bk) (hk : BkOk b) (id : ByteArray) (hrt : dy b = true) (v : Value) (w : World) (h : gi w v b) :
  Calls Try.prog 54 #[v, .string id] w fun e w' => ∃ v' vo, e = .returned (.tuple #[v', vo, .int .i64 0]) ∧ ee w' w.heap.size v' (kz b (dH b (fun a => a.f1.toList == id.toList) 64)) ∧ Kd.R (Kd.int .u32) 46 w' w.heap.size (fun _ => True) vo (relL b (dH b (fun a => a.f1.toList == id.toList) 64)).2 ∧ Below w.heap.size w w' := by
 obtain ⟨A, c, A', c', rfl, hr⟩ := h
 have HL := ak hr.l64
 have HR := ak hr
 have HK := ak hk
 have HRT := ak hrt
 have ae := ak (Below.refl w.heap.size w)
 have HP := ak (iA hrt)
 clear hr hk hrt
 go_enter Try.func54, Try.ntmps54
 go_wp2_with (first
  | (refine aE rfl 57 (.tmp 0) rfl _ rfl ?_; intro gX W1 J aa I; have bS := ge ae J; have aj := ak (ae.out.trans (I.mono ae.out.size)); have ah := ak (aa); clear J aa I ae)
  | ((with_reducible refine av (N := 4) rfl ?_); go_loud (obtain ⟨gI, J⟩ : ∃ g_, g_ = W1.heap.size := ⟨_, rfl⟩; rw [← J]; generalize bW : W1.alloc (.cells #[.string id] 9) = W2; have I : Below W1.heap.size W1 W2 := (by rw [← bW]; exact al (Below.refl _ _) _); have aa : aH W2 gI [.string id] 9 := (by rw [← bW, J]; exact heap_alloc_new W1 _); have fO : W1.heap.size ≤ gI := Nat.le_of_eq J.symm; have vJ := ge aj fO; have l7 := ne ah fO; have aw := mv I aj; have au := mv I ah; have oI := ak (aa); clear bW I aa fO J aj ah; refine ax (some 4) rfl rfl 57 rfl a7 bJ ?_; intro gZ W3 J aa I; have bO := ge aw J; have aG := ne au J; have H0 := ne oI J; have aD := mv I aw; have aA := mv I au; have mM := mv I oI; have bQ := ak (aa); clear J aa I aw au oI))
  | ((with_reducible refine av (N := 7) rfl ?_); go_loud (refine ay rfl 57 (.tmp 2) rfl gX rfl _ _ _ aA.out Try.underlying57 rfl 68 (by kernel_rfl) (ag _ _ _ _ _ HL.out) ?_))
  | (go_at_call 48; go_loud (refine (dW b HK.out _ _ ⟨A, c, A', c', rfl, HR.out.below aD.out⟩).mono ?_; rintro e W4 ⟨rfl, I⟩; rw [HRT.out]; have aW := mv I aD; have aV := mv I aA; have n7 := mv I mM; have bb := mv I bQ; clear I aD aA mM bQ)))
 have ai : Below W4.heap.size W4 W4.drew := bp (Below.refl _ _)
 have bf := mv ai aW; have a9 := mv ai aV; have il := mv ai n7; have bu := mv ai bb
 clear ai aW aV n7 bb
 have HLL := ak (b9 (aX b.addr b.aff b.slots (.slice A b.free.length c) (.slice A' b.attrs.length c')) (ag _ _ _ _ _ HL.out))
 refine da (n := 11) (S := fun w' => aH w' gX (aX b.addr b.aff b.slots (.slice A b.free.length c) (.slice A' b.attrs.length c')) 57) (ds := []) #[false, false, false, false, false, false, false, false, false, false, false] (by kernel_rfl) rfl rfl a9.out (fun hHeld => ?_); refine bK lO.tab3 lO.bits3 (fun ab bq => ?_)
 refine tk 0 ab.out bq.out hHeld ?_ (hv := by exact fun _ aY => aJ 57 (.tmp 2) rfl gX rfl _ _ _ aY Try.underlying57 rfl HLL.out)
 refine tk 1 ab.out bq.out hHeld ?_ (hv := by exact fun _ aY => aJ 57 (.tmp 2) rfl gX rfl _ _ _ aY Try.underlying57 rfl HLL.out)
 refine pu 2 ab.out ?_
 refine on 3 ab.out (fun K hK => ?_)
 refine gs Try.func96 #[.agg (aX b.addr b.aff b.slots (.slice A b.free.length c) (.slice A' b.attrs.length c')).toArray, .func (.func 98) #[] #[.pointer (some ⟨gI, 0, none⟩)]] (E5 b HK.out HP.out _ _ ⟨A, c, A', c', rfl, HR.out.below bf.out⟩ id gI il.out) ?_
 rintro e V1 ⟨vo, rfl, aU, I⟩
 refine ⟨_, rfl, ?_⟩
 obtain ⟨U, hU⟩ : ∃ U, U = dH b (fun a => a.f1.toList == id.toList) 64 := ⟨_, rfl⟩; rw [← hU] at aU; have HU := ak hU; obtain ⟨Au, cu, rfl⟩ := Kd.R_slice aU; have bD := mv I bf; have bj := mv I a9; have jK := mv I il; have bT := mv I bu; have dX := ak (aU); clear hU aU I bf a9 il bu
 refine kn hK bj.out (fun hHeld => ?_)
 clear hK K
 refine on 4 ab.out (fun K hK => ?_)
 refine gs Try.func52 #[.agg (aX b.addr b.aff b.slots (.slice A b.free.length c) (.slice A' b.attrs.length c')).toArray, .slice Au U.length cu] (oP b HK.out U (by rw [HU.out]; exact lN HK.out HP.out.first _) (by rw [HU.out]; have := gP b (fun a => a.f1.toList == id.toList) 64; omega) Au cu HRT.out _ _ ⟨A, c, A', c', rfl, HR.out.below bD.out⟩ (Kd.R_reads' dX.out).2.2) ?_
 rintro e V2 ⟨v9, vq, rfl, fF, eC, I⟩
 refine ⟨_, rfl, ?_⟩
 obtain ⟨nb, hnb⟩ : ∃ nb, nb = kz b U := ⟨_, rfl⟩; obtain ⟨nq, hnq⟩ : ∃ nq, nq = (relL b U).2 := ⟨_, rfl⟩; rw [← hnb] at fF; rw [← hnq] at eC; have HNB := ak hnb; have HNQ := ak hnq; obtain ⟨zz, qN, qO, rfl, fm, ez⟩ := fF; obtain ⟨A8, c8, rfl⟩ := Kd.R_slice fm; obtain ⟨A9, c9, rfl⟩ := Kd.R_slice ez; obtain ⟨Aq, cq, rfl⟩ := Kd.R_slice eC; have vk := ak zz; have HSZ := ak (show w.heap.size ≤ V1.heap.size from bD.out.size); have dR := mv I bD; have df := mv I bj; have jR := mv I jK; have dI := mv I bT; have eS := ak (fm); have iz := ak (ez); have k9 := ak (eC); clear hnb hnq zz fm ez eC I bD bj jK bT
 refine kn hK df.out (fun hHeld => ?_)
 clear hK K
 refine pu 5 ab.out ?_
 refine pu 6 ab.out ?_
 refine pu 7 ab.out ?_
 refine ow 8 ab.out (fun K hK => ?_)
 refine bz (by rfl) rfl 57 (.tmp 4) (.tmp 16) rfl gZ (aX nb.addr nb.aff nb.slots (.slice A8 nb.free.length c8) (.slice A9 nb.attrs.length c9)) rfl rfl 57 _ dI.out 68 (by kernel_rfl) (ag _ _ _ _ _ vk.out) rfl (bZ _ _ _ _ _ rfl rfl) ?_
 intro V3 aa J; have gO := gb dR bO J; have gN := gn df aG J; have wF := gx jR dI J; have fI := ak (aa); have ko := gr eS dI J; have km := gr iz dI J; have pB := gr k9 dI J; clear aa J dR df jR dI eS iz k9
 refine hK.out _ _ gN.out (fun hHeld => ?_)
 clear hK K
 refine pu 9 ab.out ?_
 refine pu 10 ab.out ?_
 refine dn ab.out ?_
 try go_wp2
 refine bodyPost_ret (iq rfl _ _ gZ 57 _ (0, 0) _ rfl fI.out Try.underlying57 rfl (by simp only [List.size_toArray]; exact b9 _ (ag _ _ _ _ _ vk.out))) rfl ⟨_, _, rfl, ?_, ?_, gO.out⟩
 ·rw [← HU.out, ← HNB.out]; exact ⟨vk.out, _, _, rfl, Kd.R_lower ko.out HSZ.out, Kd.R_lower km.out HSZ.out⟩
 ·rw [← HU.out, ← HNQ.out]; exact Kd.R_lower pB.out HSZ.out
end Go.Proofs.Ytemhalnhbgkbcaa.V
end

section
namespace Go.Proofs.Ytemhalnhbgkbcaa.V
attribute [local go_sem] eH eF fk fj ei eh eG eE
def dG.l0 : Nat → List Int → List Int → Int → Int → Option (Bool)
 | 0, _, _, _, _ => none
 | k + 1, x0, x1, zj, ld => if ld < zj then (if 0 ≤ ld then (if ld < (x0.length : Int) then (if ld < (x1.length : Int) then (if (rd x0 ld) = (rd x1 ld) then (dG.l0 k x0 x1 zj (wrap64 (ld + 1))) else (some false)) else (none)) else (none)) else (none)) else (some true)
def dG.f (k : Nat) (l0 : List Int) (l1 : List Int) : Option (Bool) := if (l0.length : Int) = (l1.length : Int) then (dG.l0 k l0 l1 (l1.length : Int) 0) else (some false)
set_option maxHeartbeats 8000000 in
set_option maxRecDepth 100000 in
theorem dG.calls (k : Nat) (A0 : Option Addr) (c0 : Nat) (l0 : List Int) (A1 : Option Addr) (c1 : Nat) (l1 : List Int) (r : Bool) (w : World) (rh : Kd.C (Kd.int .u32) w A0 l0.length l0) (lV : l0.length ≤ c0) (tX : Kd.C (Kd.int .u32) w A1 l1.length l1) (uI : l1.length ≤ c1) (h : dG.f k l0 l1 = some r) :
  Calls Try.prog 61 #[.slice A0 l0.length c0, .slice A1 l1.length c1] w fun e w' => e = .returned (.bool r) ∧ Drawn0 w w' := by
 have rI := ak rh
 have KM := ak lV
 clear rh lV
 have mG := ak tX
 have DU := ak uI
 clear tX uI
 have H : (if (l0.length : Int) = (l1.length : Int) then (dG.l0 k l0 l1 (l1.length : Int) 0) else (some false)) = some r := h
 clear h
 by_cases c3 : (l0.length : Int) = (l1.length : Int)
 ·rw [if_pos c3] at H
  have nK : ((l0.length : Int) == (l1.length : Int)) = true := beq_iff_eq.mpr c3
  have B0 : ((l0.length : Int) != (l1.length : Int)) = false := bne_eq_false_iff_eq.mpr c3
  have BZ : (l0.length == l1.length) = true := by first | simpa using c3 | (simp at c3 ⊢; omega)
  clear c3
  have H' := ak H
  clear H
  go_enter Try.func61, Try.ntmps61
  go_wp2
  repeat (go_quiet (fail); try go_wp2)
  go_loopg [13] k (fun kq E3 w' => ∃ (bh : Int), E3 = .int .i64 bh ∧ Aside0 (dG.l0 kq l0 l1 (l1.length : Int) bh = some r) ∧ Aside0 (kq ≤ k) ∧ Drawn0 w w')
  case atStart => exact ⟨(0), (by first | rfl | (simp; done) | (simp [*]; done)), H', ⟨Nat.le_refl _⟩, by repeat (first | exact Drawn0.refl _ | apply Drawn0.step)⟩
  case round =>
   clear H'
   obtain ⟨bh, rfl, HA, dC, ⟨m1, rfl⟩⟩ := hrel
   cases gk with
   | zero => exact absurd HA.out (by simp [dG.l0])
   | succ k1 =>
    have H := HA.out
    clear HA
    simp only [dG.l0] at H
    by_cases c4 : bh < (l1.length : Int)
    ·rw [if_pos c4] at H
     have uM : decide (bh < (l1.length : Int)) = true := decide_eq_true c4
     clear c4
     by_cases c5 : 0 ≤ bh
     ·rw [if_pos c5] at H
      have wy : decide (0 ≤ bh) = true := decide_eq_true c5
      clear c5
      by_cases c6 : bh < (l0.length : Int)
      ·rw [if_pos c6] at H
       have nJ : decide (bh < (l0.length : Int)) = true := decide_eq_true c6
       clear c6
       by_cases c7 : bh < (l1.length : Int)
       ·rw [if_pos c7] at H
        have qC : decide (bh < (l1.length : Int)) = true := decide_eq_true c7
        clear c7
        by_cases c8 : (rd l0 bh) = (rd l1 bh)
        ·rw [if_pos c8] at H
         have qB : ((rd l0 bh) == (rd l1 bh)) = true := beq_iff_eq.mpr c8
         have BV : ((rd l0 bh) != (rd l1 bh)) = false := bne_eq_false_iff_eq.mpr c8
         clear c8
         have H' := ak H
         clear H
         have qu : 0 ≤ (bh : Int) := of_decide_eq_true (by first | (with_reducible assumption) | assumption)
         have qk : bh < (l0.length : Int) := of_decide_eq_true (by first | (with_reducible assumption) | assumption)
         obtain ⟨Ma, BR, FF⟩ := Kd.at_int rI.out bh qu qk
         cases BR
         replace qu := eq_true qu
         replace qk := eq_true qk
         have qt : 0 ≤ (bh : Int) := of_decide_eq_true (by first | (with_reducible assumption) | assumption)
         have qj : bh < (l1.length : Int) := of_decide_eq_true (by first | (with_reducible assumption) | assumption)
         obtain ⟨L9, BQ, FE⟩ := Kd.at_int mG.out bh qt qj
         cases BQ
         replace qt := eq_true qt
         replace qj := eq_true qj
         go_wp2
         repeat (go_quiet (fail); try go_wp2)
         go_roundg k1
         case measure => have := dC.out; omega
         case rel => exact ⟨(wrap64 (bh + 1)), (by first | rfl | (simp; done) | (simp [*]; done)), H', ⟨by have := dC.out; omega⟩, by repeat (first | exact Drawn0.refl _ | apply Drawn0.step)⟩
        ·rw [if_neg c8] at H
         have qB : ((rd l0 bh) == (rd l1 bh)) = false := beq_eq_false_iff_ne.mpr c8
         have BV : ((rd l0 bh) != (rd l1 bh)) = true := bne_iff_ne.mpr c8
         obtain rfl := Option.some.inj H
         have qu : 0 ≤ (bh : Int) := of_decide_eq_true (by first | (with_reducible assumption) | assumption)
         have qk : bh < (l0.length : Int) := of_decide_eq_true (by first | (with_reducible assumption) | assumption)
         obtain ⟨Ma, BR, FF⟩ := Kd.at_int rI.out bh qu qk
         cases BR
         replace qu := eq_true qu
         replace qk := eq_true qk
         have qt : 0 ≤ (bh : Int) := of_decide_eq_true (by first | (with_reducible assumption) | assumption)
         have qj : bh < (l1.length : Int) := of_decide_eq_true (by first | (with_reducible assumption) | assumption)
         obtain ⟨L9, BQ, FE⟩ := Kd.at_int mG.out bh qt qj
         cases BQ
         replace qt := eq_true qt
         replace qj := eq_true qj
         go_wp2
         repeat (go_quiet (fail); try go_wp2)
         go_ret
         exact ⟨by first | rfl | (simp; done) | (simp [*]; done), by repeat (first | exact Drawn0.refl _ | apply Drawn0.step)⟩
       ·rw [if_neg c7] at H
        exact absurd H (by simp)
      ·rw [if_neg c6] at H
       exact absurd H (by simp)
     ·rw [if_neg c5] at H
      exact absurd H (by simp)
    ·rw [if_neg c4] at H
     have uM : decide (bh < (l1.length : Int)) = false := decide_eq_false c4
     clear c4
     obtain rfl := Option.some.inj H
     go_wp2
     repeat (go_quiet (fail); try go_wp2)
     go_ret
     exact ⟨by first | rfl | (simp; done) | (simp [*]; done), by repeat (first | exact Drawn0.refl _ | apply Drawn0.step)⟩
 ·rw [if_neg c3] at H
  have nK : ((l0.length : Int) == (l1.length : Int)) = false := beq_eq_false_iff_ne.mpr c3
  have B0 : ((l0.length : Int) != (l1.length : Int)) = true := bne_iff_ne.mpr c3
  have BZ : (l0.length == l1.length) = false := by first | simpa using c3 | (simp at c3 ⊢; omega)
  obtain rfl := Option.some.inj H
  go_enter Try.func61, Try.ntmps61
  go_wp2
  repeat (go_quiet (fail); try go_wp2)
  go_ret
  exact ⟨by first | rfl | (simp; done) | (simp [*]; done), by repeat (first | exact Drawn0.refl _ | apply Drawn0.step)⟩
end Go.Proofs.Ytemhalnhbgkbcaa.V
end

section
namespace Go.Proofs.Ytemhalnhbgkbcaa.V
theorem Hw (l : List Int) (hl : l.length ≤ 1000) : ∀ (d k i : Nat), i + d = l.length → d < k → dG.l0 k l l (l.length : Int) (i : Int) = some true := by
 intro d
 induction d with
 | zero =>
  intro k i hi hk
  obtain ⟨k, rfl⟩ : ∃ m, k = m + 1 := ⟨k - 1, by omega⟩
  rw [dG.l0, if_neg (by omega)]
 | succ d ih =>
  intro k i hi hk
  obtain ⟨k, rfl⟩ : ∃ m, k = m + 1 := ⟨k - 1, by omega⟩
  rw [dG.l0, if_pos (by omega), if_pos (by omega), if_pos (by omega), if_pos (by omega), if_pos rfl, g8 _ (by omega) (by omega), show (i : Int) + 1 = ((i + 1 : Nat) : Int) by omega]
  exact ih k (i + 1) (by omega) (by omega)
theorem Bb (s : ByteArray) (hs : s.size ≤ 9223372036854775807) (w : World) : Calls Try.prog 42 #[.string s] w fun e w' => e = .returned (.bool (fY s)) ∧ Below w.heap.size w w' :=
 (jc.calls 9223372036854775808 s _ w (CZ s hs _ (Nat.le_refl _))).mono (by
  rintro e w' ⟨rfl, ⟨nd, rfl⟩⟩
  exact ⟨rfl, af (Below.refl _ _) nd⟩)
theorem uD {x0 x1 x2 x3 x4 x5 : Value} : ∀ (j : Nat) (v : Value), [x2, x3][j]? = some v → [x0, x1, x2, x3, x4, x5][2 + j]? = some v := by
 intro j v h
 match j, h with
 | 0, h => exact h
 | 1, h => exact h
 | j + 2, h => simp at h
theorem nG {o : Oper} {a : Act} {w : World} (ty : TypeId) (x : Operand) (ho : o.op = .load ty x) (g off : Nat) (hx : a.eval x = .pointer (some ⟨g, off, none⟩)) (t : Nat) (cs part : List Value) (d : TypeDesc) (hb : aH w g cs t)
  (hp : ∀ j v, part[j]? = some v → cs[off + j]? = some v)
  (hu : Try.prog.underlying ty = some d) (hd : (match d with | .struct _ | .array _ _ => true | _ => false) = true) (hi : (Try.prog.info? ty).map (·.size) = some part.length) :
  (execOp a.eval o).run Try.prog w = .ok (.value (.agg part.toArray)) w := by
 unfold execOp
 simp only [ho, hx, Instr.loadAt, Instr.sureAddr, Sem.run_bind, Sem.run_pure, Result.andThen_ok, qb w g t off ty cs part d hb hp hu (by cases d <;> exact hd) hi]
theorem mm (oo : List Int) (hl : oo.length ≤ 1000) (A A' : Option Addr) (c c' : Nat) (w : World) (h : Kd.C (Kd.int .u32) w A oo.length oo) (hc : oo.length ≤ c) (h' : Kd.C (Kd.int .u32) w A' oo.length oo) (hc' : oo.length ≤ c') :
  Calls Try.prog 61 #[.slice A oo.length c, .slice A' oo.length c'] w fun e w' => e = .returned (.bool true) ∧ Below w.heap.size w w' :=
 (dG.calls (oo.length + 1) A c oo A' c' oo true w h hc h' hc' (by
  unfold dG.f
  rw [if_pos rfl]
  exact Hw oo hl oo.length _ 0 (by omega) (by omega))).mono (by
  rintro e w' ⟨rfl, ⟨nd, rfl⟩⟩
  exact ⟨rfl, af (Below.refl _ _) nd⟩)
def pw.T7 : Bool × List (List Nat × List Nat) := (true, [([], []), ([], []), ([1], [1]), ([], []), ([3], [3]), ([4], [4]), ([0, 2, 5, 5], [0, 2, 5]), ([6], [6]), ([7], [7]), ([7], [7]), ([7], [7]), ([], []), ([11, 8, 6, 0, 1, 2, 3, 4, 5, 6, 7, 8, 11], [8, 11]), ([9, 12, 0, 1, 2, 3, 4, 5, 6, 7, 8, 9, 11, 12], [9]), ([10, 13, 0, 1, 2, 3, 4, 5, 6, 7, 8, 9, 10, 11, 12, 13], [10])])
def pw.B7 : List Nat := [0, 0, 2, 0, 8, 24, 63, 127, 255, 255, 255, 0, 2559, 7167, 16383]
theorem pw.tab7 : dP .any (opsOf Try.f47 7) = pw.T7 := by kernel_rfl
theorem pw.bits7 : dr pw.T7.2 pw.B7 = true := by kernel_rfl
def sv.T9 : Bool × List (List Nat × List Nat) := (true, [([], []), ([], []), ([], []), ([2], [2]), ([3], [3]), ([4], [4]), ([5, 4, 4], [4, 5]), ([4, 6], [4, 6]), ([7, 6], [7]), ([8], [8]), ([9, 8], [8, 9]), ([10, 8], [8, 10]), ([8, 11], [8, 11]), ([0, 8, 0], [0]), ([1, 13, 0, 1, 13], [1]), ([12, 14, 0, 1, 2, 3, 4, 5, 6, 7, 8, 9, 10, 11, 12, 13, 14], [12])])
def sv.B9 : List Nat := [0, 0, 0, 4, 12, 28, 60, 124, 252, 508, 1020, 2044, 4092, 509, 8703, 32767]
theorem sv.tab9 : dP .any (opsOf Try.f47 9) = sv.T9 := by kernel_rfl
theorem sv.bits9 : dr sv.T9.2 sv.B9 = true := by kernel_rfl
def q9.T11 : Bool × List (List Nat × List Nat) := (true, [([], []), ([], []), ([], []), ([2], [2]), ([3], [3]), ([4], [4]), ([4], [4]), ([5, 6, 4, 4], [4, 5, 6]), ([4, 7], [4, 7]), ([0, 7, 0], [0]), ([1, 9, 0, 1, 9], [1]), ([8, 10, 0, 1, 2, 3, 4, 5, 6, 7, 8, 9, 10], [8])])
def q9.B11 : List Nat := [0, 0, 0, 4, 12, 28, 28, 124, 252, 253, 767, 2047]
theorem q9.tab11 : dP .any (opsOf Try.f47 11) = q9.T11 := by kernel_rfl
theorem q9.bits11 : dr q9.T11.2 q9.B11 = true := by kernel_rfl
def q8.T15 : Bool × List (List Nat × List Nat) := (true, [([], []), ([], []), ([], []), ([2], [2]), ([3], [3]), ([], []), ([5], [5]), ([0, 1, 4, 6], [0, 1, 4, 6]), ([7], [7]), ([7], [7]), ([7], [7]), ([8, 7, 0, 1, 2, 3, 4, 5, 6, 7, 8, 9, 10], [8]), ([9, 11, 0, 1, 2, 3, 4, 5, 6, 7, 8, 9, 10, 11], [9]), ([10, 12, 0, 1, 2, 3, 4, 5, 6, 7, 8, 9, 10, 11, 12], [10])])
def q8.B15 : List Nat := [0, 0, 0, 4, 12, 0, 32, 127, 255, 255, 255, 2047, 4095, 8191]
theorem q8.tab15 : dP .any (opsOf Try.f47 15) = q8.T15 := by kernel_rfl
theorem q8.bits15 : dr q8.T15.2 q8.B15 = true := by kernel_rfl
def qZ.T19 : Bool × List (List Nat × List Nat) := (true, [([], []), ([], []), ([], []), ([2], [2]), ([3], [3]), ([4], [4]), ([4], [4]), ([5, 6, 4, 4], [4, 5, 6]), ([4, 7], [4, 7]), ([0, 7, 0], [0]), ([1, 9, 0, 1, 9], [1]), ([8, 10, 0, 1, 2, 3, 4, 5, 6, 7, 8, 9, 10], [8])])
def qZ.B19 : List Nat := [0, 0, 0, 4, 12, 28, 28, 124, 252, 253, 767, 2047]
theorem qZ.tab19 : dP .any (opsOf Try.f47 19) = qZ.T19 := by kernel_rfl
theorem qZ.bits19 : dr qZ.T19.2 qZ.B19 = true := by kernel_rfl
def qY.T23 : Bool × List (List Nat × List Nat) := (true, [([], []), ([], []), ([], []), ([2], [2]), ([3], [3]), ([1, 4], [1, 4]), ([0, 5, 5], [0, 5]), ([6], [6]), ([7], [7]), ([7], [7]), ([], []), ([10, 8, 6, 0, 1, 2, 3, 4, 5, 6, 7, 8, 10], [8, 10]), ([9, 11, 0, 1, 2, 3, 4, 5, 6, 7, 8, 9, 10, 11], [9])])
def qY.B23 : List Nat := [0, 0, 0, 4, 12, 30, 63, 127, 255, 255, 0, 1535, 4095]
theorem qY.tab23 : dP .any (opsOf Try.f47 23) = qY.T23 := by kernel_rfl
theorem qY.bits23 : dr qY.T23.2 qY.B23 = true := by kernel_rfl
def qX.T24 : Bool × List (List Nat × List Nat) := (true, [([], []), ([], []), ([], []), ([2], [2]), ([3], [3]), ([4], [4]), ([4], [4]), ([5, 6, 4, 4], [4, 5, 6]), ([4, 7], [4, 7]), ([0, 7, 0], [0]), ([1, 9, 0, 1, 9], [1]), ([8, 10, 0, 1, 2, 3, 4, 5, 6, 7, 8, 9, 10], [8])])
def qX.B24 : List Nat := [0, 0, 0, 4, 12, 28, 28, 124, 252, 253, 767, 2047]
theorem qX.tab24 : dP .any (opsOf Try.f47 24) = qX.T24 := by kernel_rfl
theorem qX.bits24 : dr qX.T24.2 qX.B24 = true := by kernel_rfl
def qW.T28 : Bool × List (List Nat × List Nat) := (true, [([], []), ([], []), ([], []), ([2], [2]), ([3], [3]), ([1, 4], [1, 4]), ([0, 5, 5], [0, 5]), ([6], [6]), ([7], [7]), ([7], [7]), ([], []), ([10, 8, 6, 0, 1, 2, 3, 4, 5, 6, 7, 8, 10], [8, 10]), ([9, 11, 0, 1, 2, 3, 4, 5, 6, 7, 8, 9, 10, 11], [9])])
def qW.B28 : List Nat := [0, 0, 0, 4, 12, 30, 63, 127, 255, 255, 0, 1535, 4095]
theorem qW.tab28 : dP .any (opsOf Try.f47 28) = qW.T28 := by kernel_rfl
theorem qW.bits28 : dr qW.T28.2 qW.B28 = true := by kernel_rfl
def qV.T29 : Bool × List (List Nat × List Nat) := (true, [([], []), ([], []), ([], []), ([2], [2]), ([3], [3]), ([4], [4]), ([4], [4]), ([5, 6, 4, 4], [4, 5, 6]), ([4, 7], [4, 7]), ([0, 7, 0], [0]), ([1, 9, 0, 1, 9], [1]), ([8, 10, 0, 1, 2, 3, 4, 5, 6, 7, 8, 9, 10], [8])])
def qV.B29 : List Nat := [0, 0, 0, 4, 12, 28, 28, 124, 252, 253, 767, 2047]
theorem qV.tab29 : dP .any (opsOf Try.f47 29) = qV.T29 := by kernel_rfl
theorem qV.bits29 : dr qV.T29.2 qV.B29 = true := by kernel_rfl
def qU.T33 : Bool × List (List Nat × List Nat) := (true, [([], []), ([], []), ([], []), ([2], [2]), ([3], [3]), ([4], [4]), ([5, 4, 4], [4, 5]), ([4, 6], [4, 6]), ([0, 6, 0], [0]), ([1, 8, 0, 1, 8], [1]), ([7, 9, 0, 1, 2, 3, 4, 5, 6, 7, 8, 9], [7])])
def qU.B33 : List Nat := [0, 0, 0, 4, 12, 28, 60, 124, 125, 383, 1023]
theorem qU.tab33 : dP .any (opsOf Try.f47 33) = qU.T33 := by kernel_rfl
theorem qU.bits33 : dr qU.T33.2 qU.B33 = true := by kernel_rfl
def qT.T36 : Bool × List (List Nat × List Nat) := (true, [([], []), ([], []), ([], []), ([2], [2]), ([0, 0], [0]), ([1, 4, 0, 1, 4], [1]), ([3, 5, 0, 1, 2, 3, 4, 5], [3])])
def qT.B36 : List Nat := [0, 0, 0, 4, 1, 19, 63]
theorem qT.tab36 : dP .any (opsOf Try.f47 36) = qT.T36 := by kernel_rfl
theorem qT.bits36 : dr qT.T36.2 qT.B36 = true := by kernel_rfl
def lJ.T37 : Bool × List (List Nat × List Nat) := (true, [([], []), ([], []), ([0, 0], [0]), ([1, 2, 0, 1, 2], [1]), ([3, 0, 1, 2, 3], [])])
def lJ.B37 : List Nat := [0, 0, 1, 7, 15]
theorem lJ.tab37 : dP .any (opsOf Try.f47 37) = lJ.T37 := by kernel_rfl
theorem lJ.bits37 : dr lJ.T37.2 lJ.B37 = true := by kernel_rfl
end Go.Proofs.Ytemhalnhbgkbcaa.V
end

section
namespace Go.Proofs.Ytemhalnhbgkbcaa.V
set_option maxHeartbeats 16000000 in
set_option maxRecDepth 100000 in
theorem Ng (b : Bk) (hg : RG b) (n : Int) (hn : n < 9223372036854775808) (a : kD) (e9 : a.f0.size ≤ 9223372036854775807) (fB : a.f1.size ≤ 9223372036854775807) (l : List Int) (hu : ∀ x ∈ l, 0 ≤ x ∧ x < 4294967296) (hlm : l.length ≤ 9223372036854775807) (Al : Option Addr) (cl : Nat) (hcl : l.length ≤ cl) (aff : ByteArray) (hza : aff.size ≤ 9223372036854775807) (how : fY aff = true) (v v2 : Value) (w : World) (base : Nat) (hbase : base ≤ w.heap.size) (hO : ee w base v b) (hR : eM w base v2 b) (hC : Kd.C (Kd.int .u32) w Al l.length l) :
  Calls Try.prog 47 #[v, v2, .agg #[.int .i64 7, .int .i64 n, .string a.f0, .string a.f1, .slice Al l.length cl, .string aff]] w fun e w' => ∃ v1 v2 b', e = .returned (.tuple #[v1, v2, .bool true]) ∧ RG b' ∧ ee w' base v1 b' ∧ eM w' base v2 b' ∧ Below w.heap.size w w' := by
 obtain ⟨hl, vf, va, rfl, hf, ha⟩ := hO
 obtain ⟨vs, vp, vm, rfl, hs, hp, hm⟩ := hR
 obtain ⟨Af, cf, rfl⟩ := Kd.R_slice hf
 obtain ⟨Aa, ca, rfl⟩ := Kd.R_slice ha
 obtain ⟨As, cs, rfl⟩ := Kd.R_slice hs
 obtain ⟨Ap, cp, rfl⟩ := Kd.R_slice hp
 obtain ⟨M, hM⟩ : ∃ M, M = b.attrs.map vc := ⟨_, rfl⟩
 rw [← hM] at hm
 obtain ⟨Am, cm, rfl⟩ := Kd.R_slice hm
 have HL := ak hl
 have HM := ak hM
 have bl := ak hf
 have dg := ak ha
 have aZ := ak hs
 have ed := ak hp
 have bL := ak hm
 have HG := ak hg
 have ae := ak (Below.refl w.heap.size w)
 have HBASE := ak hbase
 have HLB := ak (b9 (aX b.addr b.aff b.slots (.slice Af b.free.length cf) (.slice Aa b.attrs.length ca)) (ag _ _ _ _ _ HL.out))
 obtain ⟨lt, hlt⟩ : ∃ lt, lt = l.take 80 := ⟨_, rfl⟩
 have hut : ∀ x ∈ lt, 0 ≤ x ∧ x < 4294967296 := fun x hx => hu x (by rw [hlt] at hx; exact List.mem_of_mem_take hx)
 have hll : lt.length = min 80 l.length := by rw [hlt, List.length_take]
 have HCL := ak hcl
 have HLL := ak hll
 have HC := ak hC
 have HCT := ak (fun W (I : Below w.heap.size w W) => (show Kd.C (Kd.int .u32) W Al lt.length lt by
  rcases Nat.lt_or_ge 80 l.length with h | h
  ·have h_ := Kd.C_take (m := 80) (Kd.C_below hC I) (by omega)
   rw [← hlt] at h_
   exact h_
  ·have h_ := Kd.C_below hC I
   have e : lt = l := by rw [hlt, List.take_of_length_le h]
   rw [e]
   exact h_))
 have hbl := fun v w h => Dj b hg.ok (by have := hg.sum; omega) (by have := hg.na; omega) aff v w h
 rw [hg.right, how, Bool.true_and] at hbl
 rw [if_pos rfl] at hbl
 have HOW := ak (fun w => Bb aff hza w)
 rw [how] at HOW
 have hrg := hg.own aff how
 obtain ⟨nb, hnb⟩ : ∃ nb, nb = Eb b aff := ⟨_, rfl⟩
 have hq : nb.addr = b.addr ∧ nb.aff = aff ∧ nb.slots = b.slots ∧ nb.free = b.free ∧ nb.attrs = b.attrs := by rw [hnb]; exact ⟨rfl, rfl, rfl, rfl, rfl⟩
 rw [← hnb] at hbl hrg
 have HRG := ak hrg
 have HQ := ak hq
 have HNL := ak hrg.l64
 have HLN := fun A8 c8 A9 c9 => b9 (aX nb.addr nb.aff nb.slots (.slice A8 nb.free.length c8) (.slice A9 nb.attrs.length c9)) (ag _ _ _ _ _ HNL.out)
 have HCP := ak (fun w h => z9 b (by omega) (by have := hg.sum; omega) M (by rw [hM, List.length_map]; have := hg.na; omega) As cs Ap cp Am cm w h)
 have HBL := ak hbl
 clear how hrg hnb hq hbl
 clear hl hM hf ha hs hp hm hbase hC hu hut hll hcl hlt hg
 go_enter Try.func47, Try.ntmps47
 go_upto_if 37 with (first
  | (refine aE rfl 57 (.tmp 0) rfl _ rfl ?_; intro gX W1 J aa I; have bS := ge ae J; have aj := ak (ae.out.trans (I.mono ae.out.size)); have bg := mv I bl; have cH := mv I dg; have bd := mv I aZ; have dc := mv I ed; have bG := mv I bL; have ah := ak (aa); clear J aa I ae bl dg aZ ed bL)
  | (refine aE rfl 62 (.tmp 1) rfl _ rfl ?_; intro gY W2 J aa I; have iZ := ge aj J; have fD := ne ah J; have aw := mv I aj; have bM := mv I bg; have dh := mv I cH; have bF := mv I bd; have dp := mv I dc; have cw := mv I bG; have au := mv I ah; have cr := ak (aa); clear J aa I aj bg cH bd dc bG ah)
  | (refine aE rfl 79 (.tmp 2) rfl _ rfl ?_; intro gT W3 J aa I; have ki := ge aw J; have gW := ne au J; have ix := ne cr J; have aD := mv I aw; have cg := mv I bM; have dL := mv I dh; have b6 := mv I bF; have ec := mv I dp; have dq := mv I cw; have aA := mv I au; have cE := mv I cr; have dQ := ak (aa); clear J aa I aw bM dh bF dp cw au cr)
  | (refine ax (some 6) rfl rfl 57 rfl a7 bJ ?_; intro gZ W4 J aa I; have bO := ge aD J; have aG := ne aA J; have fP := ne cE J; have jG := ne dQ J; have aW := mv I aD; have cd := mv I cg; have dB := mv I dL; have cP := mv I b6; have ey := mv I ec; have dw := mv I dq; have aV := mv I aA; have b5 := mv I cE; have dT := mv I dQ; have bb := ak (aa); clear J aa I aD cg dL b6 ec dq aA cE dQ)
  | (refine ax (some 7) rfl rfl 62 rfl dM (fun _ => by kernel_rfl) ?_; intro gU W5 J aa I; have fx := ge aW J; have gF := ne aV J; have dE := ne b5 J; have jH := ne dT J; have gE := ne bb J; have bf := mv I aW; have b8 := mv I cd; have cW := mv I dB; have cY := mv I cP; have er := mv I ey; have cQ := mv I dw; have a9 := mv I aV; have du := mv I b5; have bw := mv I dT; have bu := mv I bb; have ev := ak (aa); have jE := bw.out.cell 0 _ rfl; have gS := bw.out.cell 1 _ rfl; have jD := bw.out.cell 2 _ rfl; have jC := bw.out.cell 3 _ rfl; have jB := bw.out.cell 4 _ rfl; have gB := bw.out.cell 5 _ rfl; clear J aa I aW cd dB cP ey dw aV b5 dT bb))
 go_cut [9] from 37 to 39 (fun s9 wx => s9 = .slice Al lt.length cl ∧ W5 = wx)
 case first =>
  rcases Nat.lt_or_ge 80 l.length with ll | ll
  ·have lh : decide ((80 : Int) < (l.length : Int)) = true := by simp; omega
   have tZ : (((0 : Int) ≤ 80 ∧ (80 : Int) ≤ (cl : Int)) = True) := eq_true ⟨by omega, by have := HCL.out; omega⟩
   have tY : (((80 : Int) ≤ (cl : Int)) = True) := eq_true (by have := HCL.out; omega)
   go_wp2_with fail
   go_meet
   exact ⟨by rw [HLL.out, Nat.min_eq_left (by omega)], rfl⟩
  ·have lh : decide ((80 : Int) < (l.length : Int)) = false := by simp; omega
   go_wp2_with fail
   go_meet
   exact ⟨by rw [HLL.out, Nat.min_eq_right (by omega)], rfl⟩
 case rest =>
 obtain ⟨gf, fZ⟩ := hcut
 subst gf
 subst fZ
 go_wp2_with (first
  | ((with_reducible refine av (N := 208) rfl ?_); refine ay rfl 57 (.tmp 3) rfl gX rfl _ _ _ a9.out Try.underlying57 rfl 68 (by kernel_rfl) (ag _ _ _ _ _ HL.out) ?_)
  | (go_at_call 55; refine (HBL.out _ _ ⟨_, _, _, _, rfl, ⟨HL.out, (rr b8).1, (rr b8).2, (rr cW).1, (rr cW).2⟩⟩).mono ?_; rintro e W6 ⟨v_, rfl, aU, I⟩; have HSZ := ak (lb HBASE bf); obtain ⟨gR, nE, nF, rfl, cV, dA⟩ := aU; obtain ⟨A8, c8, rfl⟩ := Kd.R_slice cV; obtain ⟨A9, c9, rfl⟩ := Kd.R_slice dA; have bD := mv I bf; have cI := mv I b8; have dx := mv I cW; have dm := mv I cY; have ew := mv I er; have dU := mv I cQ; have bj := mv I a9; have cN := mv I du; have fq := mv I bw; have bT := mv I bu; have dX := mv I ev; have me := ak (Kd.R_lower cV HSZ.out); have mb := ak (Kd.R_lower dA HSZ.out); clear HSZ gR cV dA I bf b8 cW cY er cQ a9 du bw bu ev jE gS jD jC jB gB)
  | (refine ax (some 30) rfl rfl 57 rfl a7 bJ ?_; intro gQ W7 J aa I; have cz := ge bD J; have bk := ne bj J; have tC := ne cN J; have tF := ne fq J; have a8 := ne bT J; have tD := ne dX J; have dR := mv I bD; have eS := mv I cI; have iz := mv I dx; have fQ := mv I dm; have l9 := mv I ew; have jJ := mv I dU; have df := mv I bj; have iO := mv I cN; have nW := mv I fq; have dI := mv I bT; have nV := mv I dX; have mc := mv I me; have ma := mv I mb; have dv := ak (aa); clear J aa I bD cI dx dm ew dU bj cN fq bT dX me mb)
  | (refine aN rfl 57 (.tmp 30) (.tmp 212) rfl gQ (aX nb.addr nb.aff nb.slots (.slice A8 nb.free.length c8) (.slice A9 nb.attrs.length c9)) rfl rfl 57 _ dv.out 68 (by kernel_rfl) (ag _ _ _ _ _ HNL.out) rfl (bZ _ _ _ _ _ rfl rfl) ?_; intro W8 aa J; have gO := gb dR cz J; have ko := gr eS dv J; have km := gr iz dv J; have lF := gr fQ dv J; have nm := gr l9 dv J; have np := gr jJ dv J; have gN := gn df bk J; have lD := gx iO dv J; have mL := gx nW dv J; have fI := gn dI a8 J; have nU := gx nV dv J; have oh := gr mc dv J; have ob := gr ma dv J; have nZ := ak (aa); have gB := mL.out.cell 5 _ rfl; clear aa J dR eS iz fQ l9 jJ df iO nW dI nV mc ma dv)
  | (go_at_call 42; refine (HOW.out _).mono ?_; rintro e W9 ⟨rfl, I⟩; have kp := mv I gO; have nu := mv I ko; have nt := mv I km; have k8 := mv I lF; have nk := mv I nm; have nn := mv I np; have kl := mv I gN; have kZ := mv I lD; have mK := mv I mL; have j9 := mv I fI; have nh := mv I nU; have oe := mv I oh; have oa := mv I ob; have ni := mv I nZ; have gB := mK.out.cell 5 _ rfl; clear I gO ko km lF nm np gN lD mL fI nU oh ob nZ gB)
  | ((with_reducible refine av (N := 226) rfl ?_); refine ay rfl 62 (.tmp 4) rfl gY rfl _ _ _ kZ.out Try.underlying62 rfl 5 (by kernel_rfl) rfl ?_)
  | (go_at_call 85; refine (HCP.out _ (jZ.of HM.out k8.out nk.out nn.out)).mono ?_; rintro e PD ⟨uk, qN, qO, rfl, gg, fm, ez, I⟩; have HSZ := ak (lb HBASE kp); obtain ⟨A1, c1, rfl⟩ := Kd.R_slice gg; obtain ⟨A2, c2, rfl⟩ := Kd.R_slice fm; obtain ⟨A3, c3, rfl⟩ := Kd.R_slice ez; have mB := mv I kp; have r8 := mv I nu; have rX := mv I nt; have nY := mv I k8; have rN := mv I nk; have rS := mv I nn; have mw := mv I kl; have oW := mv I kZ; have pR := mv I mK; have m5 := mv I j9; have pP := mv I nh; have sg := mv I oe; have sd := mv I oa; have pU := mv I ni; have rU := ak (Kd.R_mono (ok' := fun _ => True) (Kd.R_lower gg HSZ.out) (fun _ _ => trivial)); have xT := ak (Kd.R_mono (ok' := fun _ => True) (Kd.R_lower fm HSZ.out) (fun _ _ => trivial)); have yn := ak (Kd.R_mono (ok' := fun _ => True) (Kd.R_lower ez HSZ.out) (fun _ _ => trivial)); clear HSZ gg fm ez I kp nu nt k8 nk nn kl kZ mK j9 nh oe oa ni gB)
  | (refine ax (some 32) rfl rfl 62 rfl dM (fun _ => by kernel_rfl) ?_; intro gV IC J aa I; have cG := ge mB J; have ep := ne mw J; have eR := ne oW J; have tE := ne pR J; have j7 := ne m5 J; have eb := ne pP J; have tG := ne pU J; have sk := mv I mB; have yj := mv I r8; have yc := mv I rX; have rH := mv I nY; have xI := mv I rN; have xO := mv I rS; have nS := mv I mw; have xl := mv I oW; have xv := mv I pR; have rv := mv I m5; have xt := mv I pP; have yw := mv I sg; have yr := mv I sd; have xE := mv I pU; have pV := mv I rU; have xS := mv I xT; have ym := mv I yn; have jQ := ak (aa); clear J aa I mB r8 rX nY rN rS mw oW pR m5 pP sg sd pU rU xT yn)
  | (refine aN rfl 62 (.tmp 32) (.tmp 227) rfl gV (dt b.addr b.aff (.slice A1 b.slots.length c1) (.slice A2 b.free.length c2) (.slice A3 M.length c3)) rfl rfl 62 _ jQ.out 5 (by kernel_rfl) rfl rfl (dO _ _ rfl rfl rfl) ?_; intro IB aa J; have sj := gb sk cG J; have yi := gr yj jQ J; have yb := gr yc jQ J; have pS := gr rH jQ J; have xH := gr xI jQ J; have xN := gr xO jQ J; have nR := gx nS jQ J; have xk := gn xl eR J; have vE := gx xv jQ J; have pO := gx rv jQ J; have xr := gn xt eb J; have yv := gr yw jQ J; have yq := gr yr jQ J; have xD := gx xE jQ J; have oY := gr pV jQ J; have xR := gr xS jQ J; have yl := gr ym jQ J; have iV := ak (aa); have gB := vE.out.cell 5 _ rfl; have lB := iV.out.cell 1 _ rfl; have P1 := iV.out.frozen 1; clear aa J sk yj yc rH xI xO nS xl xv rv xt yw yr xE pV xS ym jQ))
 generalize bW : IB.setCell ⟨gV, 1, none⟩ (.string aff) = IA; have J : IB.grownBy IA (some gV) := (by rw [← bW]; exact bP _ _ _ _); have yD := gb sj cG J; have yh := gr yi iV J; have ya := gr yb iV J; have xz := gr pS iV J; have I5 := gr xH iV J; have Jn := gr xN iV J; have oX := gx nR iV J; have IG := gn xk eR J; have IY := gx vE iV J; have xh := gx pO iV J; have IT := gn xr eb J; have KL := gr yv iV J; have KF := gr yq iV J; have I3 := gx xD iV J; have xW := gr oY iV J; have JB := gr xR iV J; have Ky := gr yl iV J; have EB := ak (iV.out.set 1 (.string aff)); rw [bW] at EB; clear bW J sj yi yb pS xH xN nR xk vE pO xr yv yq xD oY xR yl iV gB lB P1
 have ai : Below IA.heap.size IA IA.drew := bp (Below.refl _ _)
 have yC := mv ai yD; have yg := mv ai yh; have xZ := mv ai ya; have xy := mv ai xz; have I4 := mv ai I5; have Jm := mv ai Jn; have rC := mv ai oX; have IF := mv ai IG; have IX := mv ai IY; have ru := mv ai xh; have IS := mv ai IT; have KK := mv ai KL; have KE := mv ai KF; have I2 := mv ai I3; have xV := mv ai xW; have JA := mv ai JB; have Kx := mv ai Ky; have IP := mv ai EB
 clear ai yD yh ya xz I5 Jn oX IG IY xh IT KL KF I3 xW JB Ky EB
 have hB := yC
 have hF := yg
 have hG := xZ
 have hS := xy
 have hP := I4
 have hM := Jm
 have hX := rC
 have hY := IF
 have hT := IX
 have hZ := ru
 have hU := IS
 have hC := KK
 have hD := KE
 have hQ := I2
 have hI := xV
 have hJ := JA
 have hE := Kx
 have hV := IP
 clear yC yg xZ xy I4 Jm rC IF IX ru IS KK KE I2 xV JA Kx IP
 refine da (n := 7) (S := fun w' => aH w' gQ (aX nb.addr nb.aff nb.slots (.slice A8 nb.free.length c8) (.slice A9 nb.attrs.length c9)) 57 ∧ aH w' gV (dt b.addr aff (.slice A1 b.slots.length c1) (.slice A2 b.free.length c2) (.slice A3 M.length c3)) 62) (ds := []) #[false, false, false, false, false, false, false] (by kernel_rfl) rfl rfl ⟨hQ.out, hV.out⟩ (fun hHeld => ?_); refine bK qT.tab36 qT.bits36 (fun ab bq => ?_)
 refine tk 0 ab.out bq.out hHeld ?_ (hv := by exact fun _ aY => aJ 57 (.tmp 30) rfl gQ rfl _ _ _ aY.1 Try.underlying57 rfl (HLN _ _ _ _))
 refine tk 1 ab.out bq.out hHeld ?_ (hv := by exact fun _ aY => aJ 62 (.tmp 32) rfl gV rfl _ _ _ aY.2 Try.underlying62 rfl (by kernel_rfl))
 refine pu 2 ab.out ?_
 refine pu 3 ab.out ?_
 refine ow 4 ab.out (fun K hK => ?_)
 refine bz (by rfl) rfl 57 (.tmp 6) (.tmp 231) rfl gZ (aX nb.addr nb.aff nb.slots (.slice A8 nb.free.length c8) (.slice A9 nb.attrs.length c9)) rfl rfl 57 _ hZ.out 68 (by kernel_rfl) (ag _ _ _ _ _ HNL.out) rfl (bZ _ _ _ _ _ rfl rfl) ?_
 intro V4 aa J; replace hB := gb hB bO J; replace hF := gr hF hZ J; replace hG := gr hG hZ J; replace hS := gr hS hZ J; replace hP := gr hP hZ J; replace hM := gr hM hZ J; replace hX := gn hX aG J; replace hY := gx hY hZ J; replace hT := gx hT hZ J; replace hU := gx hU hZ J; replace hC := gr hC hZ J; replace hD := gr hD hZ J; replace hQ := gm hQ a8 J; replace hI := gr hI hZ J; replace hJ := gr hJ hZ J; replace hE := gr hE hZ J; replace hV := gx hV hZ J; replace hZ := ak (aa); clear aa J
 refine hK.out _ _ ⟨hQ.out, hV.out⟩ (fun hHeld => ?_)
 clear hK K
 refine ow 5 ab.out (fun K hK => ?_)
 refine bz (by rfl) rfl 62 (.tmp 7) (.tmp 232) rfl gU (dt b.addr aff (.slice A1 b.slots.length c1) (.slice A2 b.free.length c2) (.slice A3 M.length c3)) rfl rfl 62 _ hU.out 5 (by kernel_rfl) rfl rfl (dO _ _ rfl rfl rfl) ?_
 intro V5 aa J; replace hB := gb hB fx J; replace hF := gr hF hU J; replace hG := gr hG hU J; replace hS := gr hS hU J; replace hP := gr hP hU J; replace hM := gr hM hU J; replace hX := gx hX hU J; replace hY := gn hY dE J; replace hT := gx hT hU J; replace hZ := gx hZ hU J; replace hC := gr hC hU J; replace hD := gr hD hU J; replace hQ := gx hQ hU J; replace hI := gr hI hU J; replace hJ := gr hJ hU J; replace hE := gr hE hU J; replace hV := gm hV eb J; replace hU := ak (aa); clear aa J
 refine hK.out _ _ ⟨hQ.out, hV.out⟩ (fun hHeld => ?_)
 clear hK K
 refine pu 6 ab.out ?_
 refine dn ab.out ?_
 clear hHeld
 go_wp2_with fail
 refine bodyPost_ret (eT rfl _ _ _ gZ gU 57 62 _ _ _ _ rfl hZ.out rfl Try.underlying57 (HLN _ _ _ _) rfl hU.out rfl Try.underlying62 (by kernel_rfl)) rfl ⟨_, _, nb, rfl, HRG.out, ⟨HNL.out, _, _, rfl, hC.out, hD.out⟩, ?_, hB.out⟩
 obtain ⟨e1, e2, e3, e4, e5⟩ := HQ.out
 exact ⟨_, _, _, by rw [e1, e2], by rw [e3]; exact hI.out, by rw [e4]; exact hJ.out, by rw [e5, ← HM.out]; exact hE.out⟩
set_option maxHeartbeats 16000000 in
set_option maxRecDepth 100000 in
theorem LQ (b : Bk) (hg : RG b) (n : Int) (hn : n < 9223372036854775808) (a : kD) (e9 : a.f0.size ≤ 9223372036854775807) (fB : a.f1.size ≤ 9223372036854775807) (l : List Int) (hu : ∀ x ∈ l, 0 ≤ x ∧ x < 4294967296) (hlm : l.length ≤ 9223372036854775807) (Al : Option Addr) (cl : Nat) (hcl : l.length ≤ cl) (aff : ByteArray) (hza : aff.size ≤ 9223372036854775807) (how : fY aff = false) (v v2 : Value) (w : World) (base : Nat) (hbase : base ≤ w.heap.size) (hO : ee w base v b) (hR : eM w base v2 b) (hC : Kd.C (Kd.int .u32) w Al l.length l) :
  Calls Try.prog 47 #[v, v2, .agg #[.int .i64 7, .int .i64 n, .string a.f0, .string a.f1, .slice Al l.length cl, .string aff]] w fun e w' => ∃ v1 v2 b', e = .returned (.tuple #[v1, v2, .bool true]) ∧ RG b' ∧ ee w' base v1 b' ∧ eM w' base v2 b' ∧ Below w.heap.size w w' := by
 obtain ⟨hl, vf, va, rfl, hf, ha⟩ := hO
 obtain ⟨vs, vp, vm, rfl, hs, hp, hm⟩ := hR
 obtain ⟨Af, cf, rfl⟩ := Kd.R_slice hf
 obtain ⟨Aa, ca, rfl⟩ := Kd.R_slice ha
 obtain ⟨As, cs, rfl⟩ := Kd.R_slice hs
 obtain ⟨Ap, cp, rfl⟩ := Kd.R_slice hp
 obtain ⟨M, hM⟩ : ∃ M, M = b.attrs.map vc := ⟨_, rfl⟩
 rw [← hM] at hm
 obtain ⟨Am, cm, rfl⟩ := Kd.R_slice hm
 have HL := ak hl
 have HM := ak hM
 have bl := ak hf
 have dg := ak ha
 have aZ := ak hs
 have ed := ak hp
 have bL := ak hm
 have HG := ak hg
 have ae := ak (Below.refl w.heap.size w)
 have HBASE := ak hbase
 have HLB := ak (b9 (aX b.addr b.aff b.slots (.slice Af b.free.length cf) (.slice Aa b.attrs.length ca)) (ag _ _ _ _ _ HL.out))
 obtain ⟨lt, hlt⟩ : ∃ lt, lt = l.take 80 := ⟨_, rfl⟩
 have hut : ∀ x ∈ lt, 0 ≤ x ∧ x < 4294967296 := fun x hx => hu x (by rw [hlt] at hx; exact List.mem_of_mem_take hx)
 have hll : lt.length = min 80 l.length := by rw [hlt, List.length_take]
 have HCL := ak hcl
 have HLL := ak hll
 have HC := ak hC
 have HCT := ak (fun W (I : Below w.heap.size w W) => (show Kd.C (Kd.int .u32) W Al lt.length lt by
  rcases Nat.lt_or_ge 80 l.length with h | h
  ·have h_ := Kd.C_take (m := 80) (Kd.C_below hC I) (by omega)
   rw [← hlt] at h_
   exact h_
  ·have h_ := Kd.C_below hC I
   have e : lt = l := by rw [hlt, List.take_of_length_le h]
   rw [e]
   exact h_))
 have hbl := fun v w h => Dj b hg.ok (by have := hg.sum; omega) (by have := hg.na; omega) aff v w h
 rw [hg.right, how, Bool.true_and] at hbl
 rw [if_neg (by decide), if_neg (by decide)] at hbl
 have HOW := ak (fun w => Bb aff hza w)
 rw [how] at HOW
 obtain ⟨nb, hnb⟩ : ∃ nb, nb = jS := ⟨_, rfl⟩
 have hnl : jS.slots.length = 64 := rfl
 rw [← hnb] at hbl hnl
 have HNB := ak hnb
 have HNL := ak hnl
 have HLN := fun A8 c8 A9 c9 => b9 (aX nb.addr nb.aff nb.slots (.slice A8 nb.free.length c8) (.slice A9 nb.attrs.length c9)) (ag _ _ _ _ _ HNL.out)
 have HZR := ak (fun v w h => oy v w (by rw [← HNB.out]; exact h))
 have HBL := ak hbl
 clear how hnb hnl hbl
 clear hl hM hf ha hs hp hm hbase hC hu hut hll hcl hlt hg
 go_enter Try.func47, Try.ntmps47
 go_upto_if 37 with (first
  | (refine aE rfl 57 (.tmp 0) rfl _ rfl ?_; intro gX W1 J aa I; have bS := ge ae J; have aj := ak (ae.out.trans (I.mono ae.out.size)); have bg := mv I bl; have cH := mv I dg; have bd := mv I aZ; have dc := mv I ed; have bG := mv I bL; have ah := ak (aa); clear J aa I ae bl dg aZ ed bL)
  | (refine aE rfl 62 (.tmp 1) rfl _ rfl ?_; intro gY W2 J aa I; have iZ := ge aj J; have fD := ne ah J; have aw := mv I aj; have bM := mv I bg; have dh := mv I cH; have bF := mv I bd; have dp := mv I dc; have cw := mv I bG; have au := mv I ah; have cr := ak (aa); clear J aa I aj bg cH bd dc bG ah)
  | (refine aE rfl 79 (.tmp 2) rfl _ rfl ?_; intro gT W3 J aa I; have ki := ge aw J; have gW := ne au J; have ix := ne cr J; have aD := mv I aw; have cg := mv I bM; have dL := mv I dh; have b6 := mv I bF; have ec := mv I dp; have dq := mv I cw; have aA := mv I au; have cE := mv I cr; have dQ := ak (aa); clear J aa I aw bM dh bF dp cw au cr)
  | (refine ax (some 6) rfl rfl 57 rfl a7 bJ ?_; intro gZ W4 J aa I; have bO := ge aD J; have aG := ne aA J; have fP := ne cE J; have jG := ne dQ J; have aW := mv I aD; have cd := mv I cg; have dB := mv I dL; have cP := mv I b6; have ey := mv I ec; have dw := mv I dq; have aV := mv I aA; have b5 := mv I cE; have dT := mv I dQ; have bb := ak (aa); clear J aa I aD cg dL b6 ec dq aA cE dQ)
  | (refine ax (some 7) rfl rfl 62 rfl dM (fun _ => by kernel_rfl) ?_; intro gU W5 J aa I; have fx := ge aW J; have gF := ne aV J; have dE := ne b5 J; have jH := ne dT J; have gE := ne bb J; have bf := mv I aW; have b8 := mv I cd; have cW := mv I dB; have cY := mv I cP; have er := mv I ey; have cQ := mv I dw; have a9 := mv I aV; have du := mv I b5; have bw := mv I dT; have bu := mv I bb; have ev := ak (aa); have jE := bw.out.cell 0 _ rfl; have gS := bw.out.cell 1 _ rfl; have jD := bw.out.cell 2 _ rfl; have jC := bw.out.cell 3 _ rfl; have jB := bw.out.cell 4 _ rfl; have gB := bw.out.cell 5 _ rfl; clear J aa I aW cd dB cP ey dw aV b5 dT bb))
 go_cut [9] from 37 to 39 (fun s9 wx => s9 = .slice Al lt.length cl ∧ W5 = wx)
 case first =>
  rcases Nat.lt_or_ge 80 l.length with ll | ll
  ·have lh : decide ((80 : Int) < (l.length : Int)) = true := by simp; omega
   have tZ : (((0 : Int) ≤ 80 ∧ (80 : Int) ≤ (cl : Int)) = True) := eq_true ⟨by omega, by have := HCL.out; omega⟩
   have tY : (((80 : Int) ≤ (cl : Int)) = True) := eq_true (by have := HCL.out; omega)
   go_wp2_with fail
   go_meet
   exact ⟨by rw [HLL.out, Nat.min_eq_left (by omega)], rfl⟩
  ·have lh : decide ((80 : Int) < (l.length : Int)) = false := by simp; omega
   go_wp2_with fail
   go_meet
   exact ⟨by rw [HLL.out, Nat.min_eq_right (by omega)], rfl⟩
 case rest =>
 obtain ⟨gf, fZ⟩ := hcut
 subst gf
 subst fZ
 go_wp2_with (first
  | ((with_reducible refine av (N := 208) rfl ?_); refine ay rfl 57 (.tmp 3) rfl gX rfl _ _ _ a9.out Try.underlying57 rfl 68 (by kernel_rfl) (ag _ _ _ _ _ HL.out) ?_)
  | (go_at_call 55; refine (HBL.out _ _ ⟨_, _, _, _, rfl, ⟨HL.out, (rr b8).1, (rr b8).2, (rr cW).1, (rr cW).2⟩⟩).mono ?_; rintro e W6 ⟨v_, rfl, aU, I⟩; have HSZ := ak (lb HBASE bf); obtain ⟨gR, nE, nF, rfl, cV, dA⟩ := aU; obtain ⟨A8, c8, rfl⟩ := Kd.R_slice cV; obtain ⟨A9, c9, rfl⟩ := Kd.R_slice dA; have bD := mv I bf; have cI := mv I b8; have dx := mv I cW; have dm := mv I cY; have ew := mv I er; have dU := mv I cQ; have bj := mv I a9; have cN := mv I du; have fq := mv I bw; have bT := mv I bu; have dX := mv I ev; have me := ak (Kd.R_lower cV HSZ.out); have mb := ak (Kd.R_lower dA HSZ.out); clear HSZ gR cV dA I bf b8 cW cY er cQ a9 du bw bu ev jE gS jD jC jB gB)
  | (refine ax (some 30) rfl rfl 57 rfl a7 bJ ?_; intro gQ W7 J aa I; have cz := ge bD J; have bk := ne bj J; have tC := ne cN J; have tF := ne fq J; have a8 := ne bT J; have tD := ne dX J; have dR := mv I bD; have eS := mv I cI; have iz := mv I dx; have fQ := mv I dm; have l9 := mv I ew; have jJ := mv I dU; have df := mv I bj; have iO := mv I cN; have nW := mv I fq; have dI := mv I bT; have nV := mv I dX; have mc := mv I me; have ma := mv I mb; have dv := ak (aa); clear J aa I bD cI dx dm ew dU bj cN fq bT dX me mb)
  | (refine aN rfl 57 (.tmp 30) (.tmp 212) rfl gQ (aX nb.addr nb.aff nb.slots (.slice A8 nb.free.length c8) (.slice A9 nb.attrs.length c9)) rfl rfl 57 _ dv.out 68 (by kernel_rfl) (ag _ _ _ _ _ HNL.out) rfl (bZ _ _ _ _ _ rfl rfl) ?_; intro W8 aa J; have gO := gb dR cz J; have ko := gr eS dv J; have km := gr iz dv J; have lF := gr fQ dv J; have nm := gr l9 dv J; have np := gr jJ dv J; have gN := gn df bk J; have lD := gx iO dv J; have mL := gx nW dv J; have fI := gn dI a8 J; have nU := gx nV dv J; have oh := gr mc dv J; have ob := gr ma dv J; have nZ := ak (aa); have gB := mL.out.cell 5 _ rfl; clear aa J dR eS iz fQ l9 jJ df iO nW dI nV mc ma dv)
  | (go_at_call 42; refine (HOW.out _).mono ?_; rintro e W9 ⟨rfl, I⟩; have kp := mv I gO; have nu := mv I ko; have nt := mv I km; have k8 := mv I lF; have nk := mv I nm; have nn := mv I np; have kl := mv I gN; have kZ := mv I lD; have mK := mv I mL; have j9 := mv I fI; have nh := mv I nU; have oe := mv I oh; have oa := mv I ob; have ni := mv I nZ; clear I gO ko km lF nm np gN lD mL fI nU oh ob nZ gB))
 have ai : Below W9.heap.size W9 W9.drew := bp (Below.refl _ _)
 have mB := mv ai kp; have r8 := mv ai nu; have rX := mv ai nt; have nY := mv ai k8; have rN := mv ai nk; have rS := mv ai nn; have mw := mv ai kl; have oW := mv ai kZ; have pR := mv ai mK; have m5 := mv ai j9; have pP := mv ai nh; have sg := mv ai oe; have sd := mv ai oa; have pU := mv ai ni
 clear ai kp nu nt k8 nk nn kl kZ mK j9 nh oe oa ni
 have hB := mB
 have hF := r8
 have hG := rX
 have hS := nY
 have hP := rN
 have hM := rS
 have hX := mw
 have hY := oW
 have hT := pR
 have hZ := m5
 have hU := pP
 have hC := sg
 have hD := sd
 have hQ := pU
 clear mB r8 rX nY rN rS mw oW pR m5 pP sg sd pU
 refine da (n := 11) (S := fun w' => aH w' gX (aX b.addr b.aff b.slots (.slice Af b.free.length cf) (.slice Aa b.attrs.length ca)) 57 ∧ aH w' gY (dt b.addr b.aff (.slice As b.slots.length cs) (.slice Ap b.free.length cp) (.slice Am M.length cm)) 62 ∧ aH w' gQ (aX nb.addr nb.aff nb.slots (.slice A8 nb.free.length c8) (.slice A9 nb.attrs.length c9)) 57) (ds := []) #[false, false, false, false, false, false, false, false, false, false, false] (by kernel_rfl) rfl rfl ⟨hX.out, hY.out, hQ.out⟩ (fun hHeld => ?_); refine bK qU.tab33 qU.bits33 (fun ab bq => ?_)
 refine tk 0 ab.out bq.out hHeld ?_ (hv := by exact fun _ aY => aJ 57 (.tmp 3) rfl gX rfl _ _ _ aY.1 Try.underlying57 rfl HLB.out)
 refine tk 1 ab.out bq.out hHeld ?_ (hv := by exact fun _ aY => aJ 62 (.tmp 4) rfl gY rfl _ _ _ aY.2.1 Try.underlying62 rfl (by kernel_rfl))
 refine pu 2 ab.out ?_
 refine pu 3 ab.out ?_
 refine pu 4 ab.out ?_
 refine tk 5 ab.out bq.out hHeld ?_ (hv := by exact fun _ aY => aJ 57 (.tmp 30) rfl gQ rfl _ _ _ aY.2.2 Try.underlying57 rfl (HLN _ _ _ _))
 refine on 6 ab.out (fun K hK => ?_)
 refine gs Try.func43 #[.agg (aX nb.addr nb.aff nb.slots (.slice A8 nb.free.length c8) (.slice A9 nb.attrs.length c9)).toArray] (HZR.out _ _ ⟨_, _, _, _, rfl, ⟨HNL.out, (rr hC).1, (rr hC).2, (rr hD).1, (rr hD).2⟩⟩) ?_
 rintro e V6 ⟨rfl, I⟩
 refine ⟨_, rfl, ?_⟩
 replace hB := mv I hB; replace hF := mv I hF; replace hG := mv I hG; replace hS := mv I hS; replace hP := mv I hP; replace hM := mv I hM; replace hX := mv I hX; replace hY := mv I hY; replace hT := mv I hT; replace hZ := mv I hZ; replace hU := mv I hU; replace hC := mv I hC; replace hD := mv I hD; replace hQ := mv I hQ
 refine kn hK ⟨hX.out, hY.out, hQ.out⟩ (fun hHeld => ?_)
 clear hK K
 refine pu 7 ab.out ?_
 refine ow 8 ab.out (fun K hK => ?_)
 refine bz (by rfl) rfl 57 (.tmp 6) (.tmp 218) rfl gZ (aX b.addr b.aff b.slots (.slice Af b.free.length cf) (.slice Aa b.attrs.length ca)) rfl rfl 57 _ hZ.out 68 (by kernel_rfl) (ag _ _ _ _ _ HL.out) rfl (bZ _ _ _ _ _ rfl rfl) ?_
 intro V8 aa J; replace hB := gb hB bO J; replace hF := gr hF hZ J; replace hG := gr hG hZ J; replace hS := gr hS hZ J; replace hP := gr hP hZ J; replace hM := gr hM hZ J; replace hX := gn hX aG J; replace hY := gx hY hZ J; replace hT := gx hT hZ J; replace hU := gx hU hZ J; replace hC := gr hC hZ J; replace hD := gr hD hZ J; replace hQ := gm hQ a8 J; replace hZ := ak (aa); clear aa J
 refine hK.out _ _ ⟨hX.out, hY.out, hQ.out⟩ (fun hHeld => ?_)
 clear hK K
 refine ow 9 ab.out (fun K hK => ?_)
 refine bz (by rfl) rfl 62 (.tmp 7) (.tmp 219) rfl gU (dt b.addr b.aff (.slice As b.slots.length cs) (.slice Ap b.free.length cp) (.slice Am M.length cm)) rfl rfl 62 _ hU.out 5 (by kernel_rfl) rfl rfl (dO _ _ rfl rfl rfl) ?_
 intro V9 aa J; replace hB := gb hB fx J; replace hF := gr hF hU J; replace hG := gr hG hU J; replace hS := gr hS hU J; replace hP := gr hP hU J; replace hM := gr hM hU J; replace hX := gx hX hU J; replace hY := gn hY dE J; replace hT := gx hT hU J; replace hZ := gx hZ hU J; replace hC := gr hC hU J; replace hD := gr hD hU J; replace hQ := gx hQ hU J; replace hU := ak (aa); clear aa J
 refine hK.out _ _ ⟨hX.out, hY.out, hQ.out⟩ (fun hHeld => ?_)
 clear hK K
 refine pu 10 ab.out ?_
 refine dn ab.out ?_
 clear hHeld
 go_wp2_with fail
 refine bodyPost_ret (eT rfl _ _ _ gZ gU 57 62 _ _ _ _ rfl hZ.out rfl Try.underlying57 (by first | exact HLB.out | exact HLN _ _ _ _) rfl hU.out rfl Try.underlying62 (by kernel_rfl)) rfl ⟨_, _, b, rfl, ?_, ?_, ?_, hB.out⟩
 ·exact HG.out
 ·exact ⟨HL.out, _, _, rfl, hF.out, hG.out⟩
 ·exact ⟨_, _, _, rfl, hS.out, hP.out, by rw [← HM.out]; exact hM.out⟩
end Go.Proofs.Ytemhalnhbgkbcaa.V
end

section
namespace Go.Proofs.Ytemhalnhbgkbcaa.V
set_option maxHeartbeats 16000000 in
set_option maxRecDepth 100000 in
theorem Nh (b : Bk) (hg : RG b) (kd : Int) (hkd : kd = 2 ∨ kd = 3) (n : Int) (hn : n < 9223372036854775808) (a : kD) (e9 : a.f0.size ≤ 9223372036854775807) (fB : a.f1.size ≤ 9223372036854775807) (l : List Int) (hu : ∀ x ∈ l, 0 ≤ x ∧ x < 4294967296) (hlm : l.length ≤ 9223372036854775807) (Al : Option Addr) (cl : Nat) (hcl : l.length ≤ cl) (aff : ByteArray) (hza : aff.size ≤ 9223372036854775807) (he : l = []) (v v2 : Value) (w : World) (base : Nat) (hbase : base ≤ w.heap.size) (hO : ee w base v b) (hR : eM w base v2 b) (hC : Kd.C (Kd.int .u32) w Al l.length l) :
  Calls Try.prog 47 #[v, v2, .agg #[.int .i64 kd, .int .i64 n, .string a.f0, .string a.f1, .slice Al l.length cl, .string aff]] w fun e w' => ∃ v1 v2 b', e = .returned (.tuple #[v1, v2, .bool true]) ∧ RG b' ∧ ee w' base v1 b' ∧ eM w' base v2 b' ∧ Below w.heap.size w w' := by
 obtain ⟨hl, vf, va, rfl, hf, ha⟩ := hO
 obtain ⟨vs, vp, vm, rfl, hs, hp, hm⟩ := hR
 obtain ⟨Af, cf, rfl⟩ := Kd.R_slice hf
 obtain ⟨Aa, ca, rfl⟩ := Kd.R_slice ha
 obtain ⟨As, cs, rfl⟩ := Kd.R_slice hs
 obtain ⟨Ap, cp, rfl⟩ := Kd.R_slice hp
 obtain ⟨M, hM⟩ : ∃ M, M = b.attrs.map vc := ⟨_, rfl⟩
 rw [← hM] at hm
 obtain ⟨Am, cm, rfl⟩ := Kd.R_slice hm
 have HL := ak hl
 have HM := ak hM
 have bl := ak hf
 have dg := ak ha
 have aZ := ak hs
 have ed := ak hp
 have bL := ak hm
 have HG := ak hg
 have ae := ak (Below.refl w.heap.size w)
 have HBASE := ak hbase
 have HLB := ak (b9 (aX b.addr b.aff b.slots (.slice Af b.free.length cf) (.slice Aa b.attrs.length ca)) (ag _ _ _ _ _ HL.out))
 obtain ⟨lt, hlt⟩ : ∃ lt, lt = l.take 80 := ⟨_, rfl⟩
 have hut : ∀ x ∈ lt, 0 ≤ x ∧ x < 4294967296 := fun x hx => hu x (by rw [hlt] at hx; exact List.mem_of_mem_take hx)
 have hll : lt.length = min 80 l.length := by rw [hlt, List.length_take]
 have HCL := ak hcl
 have HLL := ak hll
 have HC := ak hC
 have HCT := ak (fun W (I : Below w.heap.size w W) => (show Kd.C (Kd.int .u32) W Al lt.length lt by
  rcases Nat.lt_or_ge 80 l.length with h | h
  ·have h_ := Kd.C_take (m := 80) (Kd.C_below hC I) (by omega)
   rw [← hlt] at h_
   exact h_
  ·have h_ := Kd.C_below hC I
   have e : lt = l := by rw [hlt, List.take_of_length_le h]
   rw [e]
   exact h_))
 have q0 : (kd = 0) = False := eq_false (by omega)
 have r0 : decide (kd = 0) = false := decide_eq_false (by omega)
 have u0 : (kd == 0) = false := beq_eq_false_iff_ne.mpr (by omega)
 have q1 : (kd = 1) = False := eq_false (by omega)
 have r1 : decide (kd = 1) = false := decide_eq_false (by omega)
 have u1 : (kd == 1) = false := beq_eq_false_iff_ne.mpr (by omega)
 have HKD := ak hkd
 have l0 : lt.length = 0 := by rw [hll, he]; rfl
 have y0 : decide (0 < lt.length) = false := by rw [l0]; rfl
 have y1 : decide ((0 : Int) < (lt.length : Int)) = false := by rw [l0]; rfl
 have y2 : (0 < lt.length) = False := eq_false (by rw [l0]; simp)
 clear he hkd l0
 clear hl hM hf ha hs hp hm hbase hC hu hut hll hcl hlt hg
 go_enter Try.func47, Try.ntmps47
 go_upto_if 37 with (first
  | (refine aE rfl 57 (.tmp 0) rfl _ rfl ?_; intro gX W1 J aa I; have bS := ge ae J; have aj := ak (ae.out.trans (I.mono ae.out.size)); have bg := mv I bl; have cH := mv I dg; have bd := mv I aZ; have dc := mv I ed; have bG := mv I bL; have ah := ak (aa); clear J aa I ae bl dg aZ ed bL)
  | (refine aE rfl 62 (.tmp 1) rfl _ rfl ?_; intro gY W2 J aa I; have iZ := ge aj J; have fD := ne ah J; have aw := mv I aj; have bM := mv I bg; have dh := mv I cH; have bF := mv I bd; have dp := mv I dc; have cw := mv I bG; have au := mv I ah; have cr := ak (aa); clear J aa I aj bg cH bd dc bG ah)
  | (refine aE rfl 79 (.tmp 2) rfl _ rfl ?_; intro gT W3 J aa I; have ki := ge aw J; have gW := ne au J; have ix := ne cr J; have aD := mv I aw; have cg := mv I bM; have dL := mv I dh; have b6 := mv I bF; have ec := mv I dp; have dq := mv I cw; have aA := mv I au; have cE := mv I cr; have dQ := ak (aa); clear J aa I aw bM dh bF dp cw au cr)
  | (refine ax (some 6) rfl rfl 57 rfl a7 bJ ?_; intro gZ W4 J aa I; have bO := ge aD J; have aG := ne aA J; have fP := ne cE J; have jG := ne dQ J; have aW := mv I aD; have cd := mv I cg; have dB := mv I dL; have cP := mv I b6; have ey := mv I ec; have dw := mv I dq; have aV := mv I aA; have b5 := mv I cE; have dT := mv I dQ; have bb := ak (aa); clear J aa I aD cg dL b6 ec dq aA cE dQ)
  | (refine ax (some 7) rfl rfl 62 rfl dM (fun _ => by kernel_rfl) ?_; intro gU W5 J aa I; have fx := ge aW J; have gF := ne aV J; have dE := ne b5 J; have jH := ne dT J; have gE := ne bb J; have bf := mv I aW; have b8 := mv I cd; have cW := mv I dB; have cY := mv I cP; have er := mv I ey; have cQ := mv I dw; have a9 := mv I aV; have du := mv I b5; have bw := mv I dT; have bu := mv I bb; have ev := ak (aa); have jE := bw.out.cell 0 _ rfl; have gS := bw.out.cell 1 _ rfl; have jD := bw.out.cell 2 _ rfl; have jC := bw.out.cell 3 _ rfl; have jB := bw.out.cell 4 _ rfl; have gB := bw.out.cell 5 _ rfl; clear J aa I aW cd dB cP ey dw aV b5 dT bb))
 go_cut [9] from 38 to 39 (fun s9 wx => s9 = .slice Al lt.length cl ∧ W5 = wx)
 case first =>
  rcases Nat.lt_or_ge 80 l.length with ll | ll
  ·have lh : decide ((80 : Int) < (l.length : Int)) = true := by simp; omega
   have tZ : (((0 : Int) ≤ 80 ∧ (80 : Int) ≤ (cl : Int)) = True) := eq_true ⟨by omega, by have := HCL.out; omega⟩
   have tY : (((80 : Int) ≤ (cl : Int)) = True) := eq_true (by have := HCL.out; omega)
   go_wp2_with fail
   go_meet
   exact ⟨by rw [HLL.out, Nat.min_eq_left (by omega)], rfl⟩
  ·have lh : decide ((80 : Int) < (l.length : Int)) = false := by simp; omega
   go_wp2_with fail
   go_meet
   exact ⟨by rw [HLL.out, Nat.min_eq_right (by omega)], rfl⟩
 case rest =>
 obtain ⟨gf, fZ⟩ := hcut
 subst gf
 subst fZ
 go_upto_if 96 with fail
 go_cut [96] from 97 to 98 (fun tl wx => tl = .bool true ∧ W5 = wx)
 case first =>
  rcases HKD.out with bV | bV
  ·skip
   have Ff : (kd = 2) = True := eq_true (by omega)
   have Mz : decide (kd = 2) = true := by simp; omega
   have Mw : (kd == 2) = true := by simp; omega
   clear bV
   go_wp2_with fail
   go_meet
   exact ⟨by first | rfl | simp [Ff], rfl⟩
  ·skip
   have Ff : (kd = 2) = False := eq_false (by omega)
   have Mz : decide (kd = 2) = false := by simp; omega
   have Mw : (kd == 2) = false := by simp; omega
   have MB : (kd = 3) = True := eq_true (by omega)
   have SR : decide (kd = 3) = true := by simp; omega
   have SQ : (kd == 3) = true := by simp; omega
   clear bV
   go_wp2_with fail
   go_meet
   exact ⟨by first | rfl | simp [MB], rfl⟩
 case rest =>
 obtain ⟨gf, fZ⟩ := hcut
 subst gf
 subst fZ
 go_wp2_with fail
 have ai : Below W5.heap.size W5 W5.drew := bp (Below.refl _ _)
 have bD := mv ai bf; have cI := mv ai b8; have dx := mv ai cW; have dm := mv ai cY; have ew := mv ai er; have dU := mv ai cQ; have bj := mv ai a9; have cN := mv ai du; have fq := mv ai bw; have bT := mv ai bu; have dX := mv ai ev
 clear ai bf b8 cW cY er cQ a9 du bw bu ev jE gS jD jC jB gB
 have hB := bD
 have hF := cI
 have hG := dx
 have hS := dm
 have hP := ew
 have hM := dU
 have hX := bj
 have hY := cN
 have hT := fq
 have hZ := bT
 have hU := dX
 clear bD cI dx dm ew dU bj cN fq bT dX
 refine da (n := 5) (S := fun w' => aH w' gX (aX b.addr b.aff b.slots (.slice Af b.free.length cf) (.slice Aa b.attrs.length ca)) 57 ∧ aH w' gY (dt b.addr b.aff (.slice As b.slots.length cs) (.slice Ap b.free.length cp) (.slice Am M.length cm)) 62) (ds := []) #[false, false, false, false, false] (by kernel_rfl) rfl rfl ⟨hX.out, hY.out⟩ (fun hHeld => ?_); refine bK lJ.tab37 lJ.bits37 (fun ab bq => ?_)
 refine tk 0 ab.out bq.out hHeld ?_ (hv := by exact fun _ aY => aJ 57 (.tmp 3) rfl gX rfl _ _ _ aY.1 Try.underlying57 rfl HLB.out)
 refine tk 1 ab.out bq.out hHeld ?_ (hv := by exact fun _ aY => aJ 62 (.tmp 4) rfl gY rfl _ _ _ aY.2 Try.underlying62 rfl (by kernel_rfl))
 refine ow 2 ab.out (fun K hK => ?_)
 refine bz (by rfl) rfl 57 (.tmp 6) (.tmp 235) rfl gZ (aX b.addr b.aff b.slots (.slice Af b.free.length cf) (.slice Aa b.attrs.length ca)) rfl rfl 57 _ hZ.out 68 (by kernel_rfl) (ag _ _ _ _ _ HL.out) rfl (bZ _ _ _ _ _ rfl rfl) ?_
 intro V2 aa J; replace hB := gb hB bO J; replace hF := gr hF hZ J; replace hG := gr hG hZ J; replace hS := gr hS hZ J; replace hP := gr hP hZ J; replace hM := gr hM hZ J; replace hX := gn hX aG J; replace hY := gx hY hZ J; replace hT := gx hT hZ J; replace hU := gx hU hZ J; replace hZ := ak (aa); clear aa J
 refine hK.out _ _ ⟨hX.out, hY.out⟩ (fun hHeld => ?_)
 clear hK K
 refine ow 3 ab.out (fun K hK => ?_)
 refine bz (by rfl) rfl 62 (.tmp 7) (.tmp 236) rfl gU (dt b.addr b.aff (.slice As b.slots.length cs) (.slice Ap b.free.length cp) (.slice Am M.length cm)) rfl rfl 62 _ hU.out 5 (by kernel_rfl) rfl rfl (dO _ _ rfl rfl rfl) ?_
 intro V3 aa J; replace hB := gb hB fx J; replace hF := gr hF hU J; replace hG := gr hG hU J; replace hS := gr hS hU J; replace hP := gr hP hU J; replace hM := gr hM hU J; replace hX := gx hX hU J; replace hY := gn hY dE J; replace hT := gx hT hU J; replace hZ := gx hZ hU J; replace hU := ak (aa); clear aa J
 refine hK.out _ _ ⟨hX.out, hY.out⟩ (fun hHeld => ?_)
 clear hK K
 refine pu 4 ab.out ?_
 refine dn ab.out ?_
 clear hHeld
 go_wp2_with fail
 refine bodyPost_ret (eT rfl _ _ _ gZ gU 57 62 _ _ _ _ rfl hZ.out rfl Try.underlying57 (by first | exact HLB.out | exact HLN _ _ _ _) rfl hU.out rfl Try.underlying62 (by kernel_rfl)) rfl ⟨_, _, b, rfl, ?_, ?_, ?_, hB.out⟩
 ·exact HG.out
 ·exact ⟨HL.out, _, _, rfl, hF.out, hG.out⟩
 ·exact ⟨_, _, _, rfl, hS.out, hP.out, by rw [← HM.out]; exact hM.out⟩
set_option maxHeartbeats 16000000 in
set_option maxRecDepth 100000 in
theorem Of (b : Bk) (hg : RG b) (kd : Int) (hkd : kd = 2 ∨ kd = 3) (n : Int) (hn : n < 9223372036854775808) (a : kD) (e9 : a.f0.size ≤ 9223372036854775807) (fB : a.f1.size ≤ 9223372036854775807) (l : List Int) (hu : ∀ x ∈ l, 0 ≤ x ∧ x < 4294967296) (hlm : l.length ≤ 9223372036854775807) (Al : Option Addr) (cl : Nat) (hcl : l.length ≤ cl) (aff : ByteArray) (hza : aff.size ≤ 9223372036854775807) (he : 0 < l.length) (v v2 : Value) (w : World) (base : Nat) (hbase : base ≤ w.heap.size) (hO : ee w base v b) (hR : eM w base v2 b) (hC : Kd.C (Kd.int .u32) w Al l.length l) :
  Calls Try.prog 47 #[v, v2, .agg #[.int .i64 kd, .int .i64 n, .string a.f0, .string a.f1, .slice Al l.length cl, .string aff]] w fun e w' => ∃ v1 v2 b', e = .returned (.tuple #[v1, v2, .bool true]) ∧ RG b' ∧ ee w' base v1 b' ∧ eM w' base v2 b' ∧ Below w.heap.size w w' := by
 obtain ⟨hl, vf, va, rfl, hf, ha⟩ := hO
 obtain ⟨vs, vp, vm, rfl, hs, hp, hm⟩ := hR
 obtain ⟨Af, cf, rfl⟩ := Kd.R_slice hf
 obtain ⟨Aa, ca, rfl⟩ := Kd.R_slice ha
 obtain ⟨As, cs, rfl⟩ := Kd.R_slice hs
 obtain ⟨Ap, cp, rfl⟩ := Kd.R_slice hp
 obtain ⟨M, hM⟩ : ∃ M, M = b.attrs.map vc := ⟨_, rfl⟩
 rw [← hM] at hm
 obtain ⟨Am, cm, rfl⟩ := Kd.R_slice hm
 have HL := ak hl
 have HM := ak hM
 have bl := ak hf
 have dg := ak ha
 have aZ := ak hs
 have ed := ak hp
 have bL := ak hm
 have HG := ak hg
 have ae := ak (Below.refl w.heap.size w)
 have HBASE := ak hbase
 have HLB := ak (b9 (aX b.addr b.aff b.slots (.slice Af b.free.length cf) (.slice Aa b.attrs.length ca)) (ag _ _ _ _ _ HL.out))
 obtain ⟨lt, hlt⟩ : ∃ lt, lt = l.take 80 := ⟨_, rfl⟩
 have hut : ∀ x ∈ lt, 0 ≤ x ∧ x < 4294967296 := fun x hx => hu x (by rw [hlt] at hx; exact List.mem_of_mem_take hx)
 have hll : lt.length = min 80 l.length := by rw [hlt, List.length_take]
 have HCL := ak hcl
 have HLL := ak hll
 have HC := ak hC
 have HCT := ak (fun W (I : Below w.heap.size w W) => (show Kd.C (Kd.int .u32) W Al lt.length lt by
  rcases Nat.lt_or_ge 80 l.length with h | h
  ·have h_ := Kd.C_take (m := 80) (Kd.C_below hC I) (by omega)
   rw [← hlt] at h_
   exact h_
  ·have h_ := Kd.C_below hC I
   have e : lt = l := by rw [hlt, List.take_of_length_le h]
   rw [e]
   exact h_))
 have q0 : (kd = 0) = False := eq_false (by omega)
 have r0 : decide (kd = 0) = false := decide_eq_false (by omega)
 have u0 : (kd == 0) = false := beq_eq_false_iff_ne.mpr (by omega)
 have q1 : (kd = 1) = False := eq_false (by omega)
 have r1 : decide (kd = 1) = false := decide_eq_false (by omega)
 have u1 : (kd == 1) = false := beq_eq_false_iff_ne.mpr (by omega)
 have HKD := ak hkd
 have MS : 0 < lt.length := by omega
 obtain ⟨x, hx⟩ : ∃ x, x = lt[0] := ⟨_, rfl⟩
 have jg := hut lt[0] (List.getElem_mem MS)
 rw [← hx] at jg
 obtain ⟨ad, hAl, hcx⟩ : ∃ ad, Al = some ad ∧ ∀ W, Below w.heap.size w W → W.cell? (ad.add 0) = some (.int .u32 x) := by
  obtain ⟨ad, eA, _⟩ := Kd.at_int (HCT.out w (Below.refl _ _)) 0 (by omega) (by omega)
  refine ⟨ad, eA, fun W hb => ?_⟩
  obtain ⟨TI, Tz, hc⟩ := Kd.at_int (HCT.out W hb) 0 (by omega) (by omega)
  have : ad = TI := Option.some.inj (eA.symm.trans Tz)
  subst this
  have h2 : rd lt 0 = x := by rw [hx]; simp [rd, List.getD, MS]
  rw [← h2]
  exact hc
 subst hAl
 have HCX := ak hcx
 have p1 : ((0 : Int) < (lt.length : Int)) = True := eq_true (by omega)
 have p2 : (0 < lt.length) = True := eq_true (by omega)
 have p3 : decide (0 < lt.length) = true := decide_eq_true (by omega)
 have HLA := ak (fun v v2 w h1 h2 h3 => C7 b hg x jg.1 jg.2 a e9 fB v v2 w base h1 h2 h3)
 clear MS hx jg hcx he hkd
 clear hl hM hf ha hs hp hm hbase hC hu hut hll hcl hlt hg
 go_enter Try.func47, Try.ntmps47
 go_upto_if 37 with (first
  | (refine aE rfl 57 (.tmp 0) rfl _ rfl ?_; intro gX W1 J aa I; have bS := ge ae J; have aj := ak (ae.out.trans (I.mono ae.out.size)); have bg := mv I bl; have cH := mv I dg; have bd := mv I aZ; have dc := mv I ed; have bG := mv I bL; have ah := ak (aa); clear J aa I ae bl dg aZ ed bL)
  | (refine aE rfl 62 (.tmp 1) rfl _ rfl ?_; intro gY W2 J aa I; have iZ := ge aj J; have fD := ne ah J; have aw := mv I aj; have bM := mv I bg; have dh := mv I cH; have bF := mv I bd; have dp := mv I dc; have cw := mv I bG; have au := mv I ah; have cr := ak (aa); clear J aa I aj bg cH bd dc bG ah)
  | (refine aE rfl 79 (.tmp 2) rfl _ rfl ?_; intro gT W3 J aa I; have ki := ge aw J; have gW := ne au J; have ix := ne cr J; have aD := mv I aw; have cg := mv I bM; have dL := mv I dh; have b6 := mv I bF; have ec := mv I dp; have dq := mv I cw; have aA := mv I au; have cE := mv I cr; have dQ := ak (aa); clear J aa I aw bM dh bF dp cw au cr)
  | (refine ax (some 6) rfl rfl 57 rfl a7 bJ ?_; intro gZ W4 J aa I; have bO := ge aD J; have aG := ne aA J; have fP := ne cE J; have jG := ne dQ J; have aW := mv I aD; have cd := mv I cg; have dB := mv I dL; have cP := mv I b6; have ey := mv I ec; have dw := mv I dq; have aV := mv I aA; have b5 := mv I cE; have dT := mv I dQ; have bb := ak (aa); clear J aa I aD cg dL b6 ec dq aA cE dQ)
  | (refine ax (some 7) rfl rfl 62 rfl dM (fun _ => by kernel_rfl) ?_; intro gU W5 J aa I; have fx := ge aW J; have gF := ne aV J; have dE := ne b5 J; have jH := ne dT J; have gE := ne bb J; have bf := mv I aW; have b8 := mv I cd; have cW := mv I dB; have cY := mv I cP; have er := mv I ey; have cQ := mv I dw; have a9 := mv I aV; have du := mv I b5; have bw := mv I dT; have bu := mv I bb; have ev := ak (aa); have jE := bw.out.cell 0 _ rfl; have gS := bw.out.cell 1 _ rfl; have jD := bw.out.cell 2 _ rfl; have jC := bw.out.cell 3 _ rfl; have jB := bw.out.cell 4 _ rfl; have gB := bw.out.cell 5 _ rfl; clear J aa I aW cd dB cP ey dw aV b5 dT bb))
 go_cut [9] from 38 to 39 (fun s9 wx => s9 = .slice (some ad) lt.length cl ∧ W5 = wx)
 case first =>
  rcases Nat.lt_or_ge 80 l.length with ll | ll
  ·have lh : decide ((80 : Int) < (l.length : Int)) = true := by simp; omega
   have tZ : (((0 : Int) ≤ 80 ∧ (80 : Int) ≤ (cl : Int)) = True) := eq_true ⟨by omega, by have := HCL.out; omega⟩
   have tY : (((80 : Int) ≤ (cl : Int)) = True) := eq_true (by have := HCL.out; omega)
   go_wp2_with fail
   go_meet
   exact ⟨by rw [HLL.out, Nat.min_eq_left (by omega)], rfl⟩
  ·have lh : decide ((80 : Int) < (l.length : Int)) = false := by simp; omega
   go_wp2_with fail
   go_meet
   exact ⟨by rw [HLL.out, Nat.min_eq_right (by omega)], rfl⟩
 case rest =>
 obtain ⟨gf, fZ⟩ := hcut
 subst gf
 subst fZ
 go_upto_if 96 with fail
 go_cut [96] from 97 to 98 (fun tl wx => tl = .bool true ∧ W5 = wx)
 case first =>
  rcases HKD.out with bV | bV
  ·skip
   have Ff : (kd = 2) = True := eq_true (by omega)
   have Mz : decide (kd = 2) = true := by simp; omega
   have Mw : (kd == 2) = true := by simp; omega
   clear bV
   go_wp2_with fail
   go_meet
   exact ⟨by first | rfl | simp [Ff], rfl⟩
  ·skip
   have Ff : (kd = 2) = False := eq_false (by omega)
   have Mz : decide (kd = 2) = false := by simp; omega
   have Mw : (kd == 2) = false := by simp; omega
   have MB : (kd = 3) = True := eq_true (by omega)
   have SR : decide (kd = 3) = true := by simp; omega
   have SQ : (kd == 3) = true := by simp; omega
   clear bV
   go_wp2_with fail
   go_meet
   exact ⟨by first | rfl | simp [MB], rfl⟩
 case rest =>
 obtain ⟨gf, fZ⟩ := hcut
 subst gf
 subst fZ
 go_wp2_with fail
 have ai : Below W5.heap.size W5 W5.drew := bp (Below.refl _ _)
 have bD := mv ai bf; have cI := mv ai b8; have dx := mv ai cW; have dm := mv ai cY; have ew := mv ai er; have dU := mv ai cQ; have bj := mv ai a9; have cN := mv ai du; have fq := mv ai bw; have bT := mv ai bu; have dX := mv ai ev
 clear ai bf b8 cW cY er cQ a9 du bw bu ev jE gS jD jC jB gB
 have hB := bD
 have hF := cI
 have hG := dx
 have hS := dm
 have hP := ew
 have hM := dU
 have hX := bj
 have hY := cN
 have hT := fq
 have hZ := bT
 have hU := dX
 clear bD cI dx dm ew dU bj cN fq bT dX
 refine da (n := 14) (S := fun w' => aH w' gX (aX b.addr b.aff b.slots (.slice Af b.free.length cf) (.slice Aa b.attrs.length ca)) 57 ∧ aH w' gY (dt b.addr b.aff (.slice As b.slots.length cs) (.slice Ap b.free.length cp) (.slice Am M.length cm)) 62 ∧ aH w' gT [.int .i64 kd, .int .i64 n, .string a.f0, .string a.f1, .slice (some ad) l.length cl, .string aff] 79 ∧ Below w.heap.size w w') (ds := []) #[false, false, false, false, false, false, false, false, false, false, false, false, false, false] (by kernel_rfl) rfl rfl ⟨hX.out, hY.out, hT.out, hB.out⟩ (fun hHeld => ?_); refine bK q8.tab15 q8.bits15 (fun ab bq => ?_)
 refine tk 0 ab.out bq.out hHeld ?_ (hv := by exact fun _ aY => aJ 57 (.tmp 3) rfl gX rfl _ _ _ aY.1 Try.underlying57 rfl HLB.out)
 refine tk 1 ab.out bq.out hHeld ?_ (hv := by exact fun _ aY => aJ 62 (.tmp 4) rfl gY rfl _ _ _ aY.2.1 Try.underlying62 rfl (by kernel_rfl))
 refine pu 2 ab.out ?_
 refine pu 3 ab.out ?_
 refine tk 4 ab.out bq.out hHeld ?_ (hv := by intro w' aY; have M8 := HCX.out w' aY.2.2.2; have Vq : w'.cell? ad = some (.int .u32 x) := M8; go_simp; with_reducible rfl)
 refine pu 5 ab.out ?_
 refine tk 6 ab.out bq.out hHeld ?_ (hv := by exact fun _ aY => nG 76 (.tmp 107) rfl gT 2 rfl _ _ [.string a.f0, .string a.f1] _ aY.2.2.1 uD Try.underlying76 rfl (by kernel_rfl))
 refine on 7 ab.out (fun K hK => ?_)
 refine gs Try.func83 #[.agg (aX b.addr b.aff b.slots (.slice Af b.free.length cf) (.slice Aa b.attrs.length ca)).toArray, .agg (dt b.addr b.aff (.slice As b.slots.length cs) (.slice Ap b.free.length cp) (.slice Am M.length cm)).toArray, .int .u32 x, .agg #[.string a.f0, .string a.f1]] (HLA.out _ _ _ (lb HBASE hB) ⟨HL.out, _, _, rfl, hF.out, hG.out⟩ ⟨_, _, _, rfl, hS.out, hP.out, by rw [← HM.out]; exact hM.out⟩) ?_
 rintro e V7 ⟨v8, v9, nb, rfl, hrg, aU, fF, I⟩
 refine ⟨_, rfl, ?_⟩
 replace hB := mv I hB; replace hF := mv I hF; replace hG := mv I hG; replace hS := mv I hS; replace hP := mv I hP; replace hM := mv I hM; replace hX := mv I hX; replace hY := mv I hY; replace hT := mv I hT; replace hZ := mv I hZ; replace hU := mv I hU; have HRG := ak hrg; have HNL := ak hrg.l64; obtain ⟨gR, nE, nF, rfl, cV, dA⟩ := aU; obtain ⟨A8, c8, rfl⟩ := Kd.R_slice cV; obtain ⟨A9, c9, rfl⟩ := Kd.R_slice dA; obtain ⟨uk, qN, qO, rfl, gg, fm, ez⟩ := fF; obtain ⟨A1, c1, rfl⟩ := Kd.R_slice gg; obtain ⟨A2, c2, rfl⟩ := Kd.R_slice fm; obtain ⟨NM, hNM⟩ : ∃ NM, NM = nb.attrs.map vc := ⟨_, rfl⟩; rw [← hNM] at ez; have HNM := ak hNM; obtain ⟨A3, c3, rfl⟩ := Kd.R_slice ez; have hC := ak cV; have hD := ak dA; have hI := ak gg; have hJ := ak fm; have hE := ak ez; clear hrg gR cV dA hNM gg fm ez I
 refine kn hK ⟨hX.out, hY.out, hT.out, hB.out⟩ (fun hHeld => ?_)
 clear hK K
 refine pu 8 ab.out ?_
 refine pu 9 ab.out ?_
 refine pu 10 ab.out ?_
 refine ow 11 ab.out (fun K hK => ?_)
 refine bz (by rfl) rfl 57 (.tmp 6) (.tmp 110) rfl gZ (aX nb.addr nb.aff nb.slots (.slice A8 nb.free.length c8) (.slice A9 nb.attrs.length c9)) rfl rfl 57 _ hZ.out 68 (by kernel_rfl) (ag _ _ _ _ _ HNL.out) rfl (bZ _ _ _ _ _ rfl rfl) ?_
 intro ov aa J; replace hB := gb hB bO J; replace hF := gr hF hZ J; replace hG := gr hG hZ J; replace hS := gr hS hZ J; replace hP := gr hP hZ J; replace hM := gr hM hZ J; replace hX := gn hX aG J; replace hY := gx hY hZ J; replace hT := gx hT hZ J; replace hU := gx hU hZ J; replace hC := gr hC hZ J; replace hD := gr hD hZ J; replace hI := gr hI hZ J; replace hJ := gr hJ hZ J; replace hE := gr hE hZ J; replace hZ := ak (aa); clear aa J
 refine hK.out _ _ ⟨hX.out, hY.out, hT.out, hB.out⟩ (fun hHeld => ?_)
 clear hK K
 refine ow 12 ab.out (fun K hK => ?_)
 refine bz (by rfl) rfl 62 (.tmp 7) (.tmp 111) rfl gU (dt nb.addr nb.aff (.slice A1 nb.slots.length c1) (.slice A2 nb.free.length c2) (.slice A3 NM.length c3)) rfl rfl 62 _ hU.out 5 (by kernel_rfl) rfl rfl (dO _ _ rfl rfl rfl) ?_
 intro Nv aa J; replace hB := gb hB fx J; replace hF := gr hF hU J; replace hG := gr hG hU J; replace hS := gr hS hU J; replace hP := gr hP hU J; replace hM := gr hM hU J; replace hX := gx hX hU J; replace hY := gn hY dE J; replace hT := gx hT hU J; replace hZ := gx hZ hU J; replace hC := gr hC hU J; replace hD := gr hD hU J; replace hI := gr hI hU J; replace hJ := gr hJ hU J; replace hE := gr hE hU J; replace hU := ak (aa); clear aa J
 refine hK.out _ _ ⟨hX.out, hY.out, hT.out, hB.out⟩ (fun hHeld => ?_)
 clear hK K
 refine pu 13 ab.out ?_
 refine dn ab.out ?_
 clear hHeld
 have HLN := fun A8 c8 A9 c9 => b9 (aX nb.addr nb.aff nb.slots (.slice A8 nb.free.length c8) (.slice A9 nb.attrs.length c9)) (ag _ _ _ _ _ HNL.out)
 go_wp2_with fail
 refine bodyPost_ret (eT rfl _ _ _ gZ gU 57 62 _ _ _ _ rfl hZ.out rfl Try.underlying57 (by first | exact HLB.out | exact HLN _ _ _ _) rfl hU.out rfl Try.underlying62 (by kernel_rfl)) rfl ⟨_, _, nb, rfl, ?_, ?_, ?_, hB.out⟩
 ·exact HRG.out
 ·exact ⟨HNL.out, _, _, rfl, hC.out, hD.out⟩
 ·exact ⟨_, _, _, rfl, hI.out, hJ.out, by rw [← HNM.out]; exact hE.out⟩
end Go.Proofs.Ytemhalnhbgkbcaa.V
end

