/- The law BlockPlays for every input: texts of ours, put together (part 13 of 17). No further condition. -/
import Derived.Test.YtemhalnhbgkbcaaCBlockPlaysx2
import Derived.Test.YtemhalnhbgkbcaaCBlockPlaysx6
import Derived.Test.YtemhalnhbgkbcaaCBlockPlaysx7
import Derived.Test.YtemhalnhbgkbcaaCBlockPlaysx11
import Derived.Test.YtemhalnhbgkbcaaCBlockPlaysx8
import Derived.Test.YtemhalnhbgkbcaaCBlockPlaysx5
import Derived.Outline
import Derived.Test.YtemhalnhbgkbcaaCBlockPlaysx10
import Derived.Test.YtemhalnhbgkbcaaCBlockPlaysx3
import Derived.Test.YtemhalnhbgkbcaaCBlockPlaysx9
set_option linter.unusedVariables false
set_option linter.unusedSimpArgs false
open Go.RowKit Go.Proofs.YtemhalnhbgkbcaaW.PrintWords Go.Proofs.YtemhalnhbgkbcaaW.PrintLast Go.Proofs.YtemhalnhbgkbcaaW.PrintMore Go.Proofs.Ytemhalnhbgkbcaa.Z
section
namespace Go.Proofs.Ytemhalnhbgkbcaa.V
set_option maxHeartbeats 16000000 in
set_option maxRecDepth 100000 in
theorem G4 (b : Bk) (hk : BkOk b) (l : List Int) (hu : ∀ x ∈ l, 0 ≤ x ∧ x < 4294967296) (hll : l.length ≤ 1000) (Al : Option Addr) (cl : Nat) (hrt : eE b = false) (v : Value) (w : World) (h : jb w v b) (hC : Kd.C (Kd.int .u32) w Al l.length l) :
  Calls Try.prog 52 #[v, .slice Al l.length cl] w fun e w' => ∃ v' vo, e = .returned (.tuple #[v', vo, .int .i64 1]) ∧ eP w' w.heap.size v' kC ∧ Kd.R (Kd.int .u32) 46 w' w.heap.size (fun _ => True) vo [] ∧ Below w.heap.size w w' := by
 obtain ⟨A, c, A', c', rfl, hr⟩ := h
 have HL := ak hr.l64
 have HR := ak hr
 have HK := ak hk
 have HRT := ak hrt
 have HC := ak hC
 have an := ak (Below.refl w.heap.size w)
 clear hr hk hrt hC
 go_enter Try.func52, Try.ntmps52
 go_wp2_with (first
  | (refine aV rfl 57 (.tmp 0) rfl _ rfl ?_; intro gX W1 J aa I; have cw := ge an J; have aA := ak (an.out.trans (I.mono an.out.size)); have au := ak (aa); clear J aa I an)
  | (refine aH (some 4) rfl rfl 57 rfl bu b6 ?_; intro gZ W2 J aa I; have ct := ge aA J; have aU := ne au J; have aK := mv I aA; have aI := mv I au; have de := ak (aa); clear J aa I aA au)
  | ((with_reducible refine aJ (N := 12) rfl ?_); go_loud (refine aN rfl 57 (.tmp 2) rfl gX rfl _ _ _ aI.out Try.underlying57 rfl 68 (by kernel_rfl) (ao _ _ _ _ _ HL.out) ?_))
  | (go_at_call 48; go_loud (refine (e8 b HK.out _ _ ⟨A, c, A', c', rfl, HR.out.below aK.out⟩).mono ?_; rintro e W3 ⟨rfl, I⟩; rw [HRT.out]; have aT := mv I aK; have aQ := mv I aI; have cD := mv I de; clear I aK aI de))
  | (refine gz rfl 57 #[] rfl bu mD ?_)
  | (refine a7 rfl 57 (.tmp 4) (.tmp 15) rfl gZ bu rfl rfl 57 _ cD.out 68 (by kernel_rfl) rfl rfl jU ?_; intro W4 aa J; have bq := gb aT ct J; have bg := gn aQ aU J; have bB := ak (aa); clear aa J aT aQ cD))
 exact bodyPost_ret (jc rfl _ _ gZ 57 _ (0, 0) _ rfl bB.out Try.underlying57 rfl (by simp only [List.size_toArray]; exact dc _ rfl)) rfl ⟨_, _, rfl, oC _ _, Kd.R_nil _ _ _ _ _, bq.out⟩
set_option maxHeartbeats 16000000 in
set_option maxRecDepth 100000 in
theorem qq (b : Bk) (hk : BkOk b) (l : List Int) (hu : ∀ x ∈ l, 0 ≤ x ∧ x < 4294967296) (hll : l.length ≤ 1000) (Al : Option Addr) (cl : Nat) (hrt : eE b = true) (v : Value) (w : World) (h : jb w v b) (hC : Kd.C (Kd.int .u32) w Al l.length l) :
  Calls Try.prog 52 #[v, .slice Al l.length cl] w fun e w' => ∃ v' vo, e = .returned (.tuple #[v', vo, .int .i64 0]) ∧ eP w' w.heap.size v' (mV b l) ∧ Kd.R (Kd.int .u32) 46 w' w.heap.size (fun _ => True) vo (relL b l).2 ∧ Below w.heap.size w w' := by
 obtain ⟨A, c, A', c', rfl, hr⟩ := h
 have HL := ak hr.l64
 have HR := ak hr
 have HK := ak hk
 have HRT := ak hrt
 have HC := ak hC
 have an := ak (Below.refl w.heap.size w)
 have hp := jD hrt
 have hsum := hp.sum_le hk hr.l64
 have hrk := uW hk hp hr.l64 l
 have HRK := ak hrk
 have HFL := ak (show b.free.length ≤ 64 by omega)
 have hal : b.attrs.length ≤ 64 := by omega
 have HAL := ak hal
 have HCP := ak (nO b (by omega) (by omega))
 have HU := ak hu
 have HCL := ak (zv b l)
 clear hr hk hrt hC hp hsum hrk hu
 go_enter Try.func52, Try.ntmps52
 go_wp2_with (first
  | (refine aV rfl 57 (.tmp 0) rfl _ rfl ?_; intro gX W1 J aa I; have cw := ge an J; have aA := ak (an.out.trans (I.mono an.out.size)); have au := ak (aa); clear J aa I an)
  | (refine aH (some 4) rfl rfl 57 rfl bu b6 ?_; intro gZ W2 J aa I; have ct := ge aA J; have aU := ne au J; have aK := mv I aA; have aI := mv I au; have de := ak (aa); clear J aa I aA au)
  | ((with_reducible refine aJ (N := 12) rfl ?_); go_loud (refine aN rfl 57 (.tmp 2) rfl gX rfl _ _ _ aI.out Try.underlying57 rfl 68 (by kernel_rfl) (ao _ _ _ _ _ HL.out) ?_))
  | (go_at_call 48; go_loud (refine (e8 b HK.out _ _ ⟨A, c, A', c', rfl, HR.out.below aK.out⟩).mono ?_; rintro e W3 ⟨rfl, I⟩; rw [HRT.out]; have aT := mv I aK; have aQ := mv I aI; have cD := mv I de; clear I aK aI de))
  | ((with_reducible refine aJ (N := 16) rfl ?_); go_loud (refine aN rfl 57 (.tmp 2) rfl gX rfl _ _ _ aQ.out Try.underlying57 rfl 68 (by kernel_rfl) (ao _ _ _ _ _ HL.out) ?_))
  | (go_at_call 89; go_loud (refine (HCP.out _ _ ⟨A, c, A', c', rfl, HR.out.below aT.out⟩).mono ?_; rintro e W4 ⟨v5, rfl, xw, I⟩; obtain ⟨xy, vf, va, rfl, nn, nr⟩ := xw; obtain ⟨Af, cf, rfl⟩ := Kd.R_slice nn; obtain ⟨Aa, ca, rfl⟩ := Kd.R_slice nr; have HSZ := ak aT.out.size; have bq := mv I aT; have bg := mv I aQ; have bB := mv I cD; have cU := ak (nn); have eo := ak (nr); have dC := ak (I.size); clear xy nn nr I aT aQ cD))
  | (refine a7 rfl 57 (.tmp 2) (.tmp 17) rfl gX (bk b.addr b.aff b.slots (.slice Af b.free.length cf) (.slice Aa b.attrs.length ca)) rfl rfl 57 _ bg.out 68 (by kernel_rfl) (ao _ _ _ _ _ HL.out) (ao _ _ _ _ _ HL.out) (cA _ _ _ _ _ rfl rfl) ?_; intro W5 aa J; have bE := gb bq cw J; have bz := ak (aa); have bY := gm bB aU J; have cQ := gr cU bg J; have dJ := gr eo bg J; have dG := ak (Nat.le_trans dC.out J.size); clear aa J bq bg bB cU eo dC))
 obtain ⟨b1, cI⟩ : ∃ b1, b1 = W3.heap.size := ⟨_, rfl⟩
 rw [← cI] at cQ dJ dG HSZ
 have cG := ak (show w.heap.size ≤ b1 from HSZ.out)
 clear cI HSZ
 go_loopw [7, 9, 10, 11, 20, 24] (fun q _ _ _ i _ W => ∃ k : Nat, k ≤ l.length ∧ i = .int .i64 k ∧ Aside0 (OC W b1 gX (relL b (l.take k)).1) ∧ Aside0 (Kd.R (Kd.int .u32) 46 W w.heap.size (fun _ => True) q (relL b (l.take k)).2) ∧ Aside0 (aX W gZ bu 57) ∧ Aside0 (b1 ≤ W.heap.size) ∧ Aside0 (Below w.heap.size w W)) (fun _ _ _ _ i _ _ => l.length - (intOf i).toNat)
 case atStart => exact ⟨0, by omega, rfl, ⟨HL.out, _, _, bz.out, cQ.out, dJ.out⟩, ⟨Kd.R_nil _ _ _ _ _⟩, bY, dG, bE⟩
 case round =>
  clear bE bz bY cQ dJ dG
  obtain ⟨k, hk, rfl, aZ, b9, bT, bl, an⟩ := hrel
  obtain ⟨W, rfl⟩ : ∃ W : World, W = wr := ⟨_, rfl⟩
  have hro := HRK.out k hk
  by_cases hkn : k < l.length
  ·have hkb : decide ((k : Int) < (l.length : Int)) = true := by simp; omega
   obtain ⟨ad, eA, hx⟩ := Kd.at_int (Kd.C_below HC.out an.out) k (by omega) (by omega)
   cases eA
   rw [Int.toNat_natCast] at hx
   have p1 : ((k : Int) < (l.length : Int)) = True := eq_true (by omega)
   have hrd : rd l k = l[k] := by simp [rd, List.getD, hkn]
   have kE := HU.out _ (List.getElem_mem hkn)
   obtain ⟨x, hxx⟩ : ∃ x, l[k] = x := ⟨_, rfl⟩
   rw [hxx] at hrd kE
   rw [hrd] at hx
   have hsu := Ch b l k hkn x hxx
   obtain ⟨rs, hrs⟩ : ∃ rs, rs = relL b (l.take k) := ⟨_, rfl⟩
   rw [← hrs] at hro hsu aZ b9
   have hol := hro.ol
   have hfl := hro.fl
   have hbk : BkOk rs.1 := ⟨by rw [hro.addr]; exact HK.out.a0, by rw [hro.addr]; exact HK.out.a1, hro.s8, hro.f8⟩
   have hpl := fun v w h => Cl rs.1 hbk x kE.1 kE.2 v w h
   have HSU := ak hsu
   have HLM := ak hro.l64
   obtain ⟨bm, oo⟩ := rs
   simp only at hol hfl hpl aZ b9 HLM
   obtain ⟨Ao, co, rfl⟩ := Kd.R_slice b9.out
   obtain ⟨A1, c1, A2, c2, DY, np, my⟩ := aZ.out.open
   have HOL := ak (show oo.length ≤ 1000 by omega)
   have HFLN := ak (show bm.free.length ≤ 2000 by have := HFL.out; omega)
   have HXX := ak DY
   have j3 := ak np
   have kZ := ak my
   clear hro DY np my hrs hrd hxx hsu hbk hol hfl aZ
   by_cases hpb : cC x = bm.addr
   ·rw [if_pos hpb, decide_eq_true hpb] at hpl
    have hj : (x - bm.addr).toNat < 64 ∧ ((x - bm.addr).toNat : Int) = x - bm.addr := by
     unfold cC at hpb
     omega
    obtain ⟨j, hjq⟩ : ∃ j : Nat, j = (x - bm.addr).toNat := ⟨_, rfl⟩
    rw [← hjq] at hj
    rw [← hj.2] at hpl
    have sD : j < 64 := hj.1
    have pj : ((j : Int) < 64) = True := eq_true (by omega)
    have HPL := ak hpl
    obtain ⟨m, hm⟩ : ∃ m, bm.slots.getD j 0 = m := ⟨_, rfl⟩
    have hhit : ku bm x = (m != 0) := by
     unfold ku
     rw [decide_eq_true hpb, ← hjq, hm, Bool.true_and]
    have HM := ak hm
    have HJ := ak hj.2
    by_cases sC : m = 0
    ·subst sC
     have HEQ := ak (show relL b (l.take (k + 1)) = (bm, oo) by rw [HSU.out]; unfold relF; rw [if_neg (by rw [hhit]; decide)])
     clear hpb hj hpl hjq hm hhit
     go_wp2_with (first
      | ((with_reducible refine aJ (N := 25) rfl ?_); go_loud (refine aN rfl 57 (.tmp 2) rfl gX rfl _ _ _ HXX.out Try.underlying57 rfl 68 (by kernel_rfl) (ao _ _ _ _ _ HLM.out) ?_))
      | (go_at_call 92; go_loud (refine (HPL.out _ _ ⟨A1, c1, A2, c2, rfl, ⟨HLM.out, (rr j3).1, (rr j3).2, (rr kZ).1, (rr kZ).2⟩⟩).mono ?_; rintro e W1 ⟨rfl, I⟩; have au := mv I HXX; have bJ := mv I j3; have ea := mv I kZ; have dt := mv I b9; have cd := mv I bT; have bC := ak (Nat.le_trans bl.out I.size); have aA := ak (an.out.trans (I.mono an.out.size)); have Qu := (show W1.cell? ⟨gX, 2 + j, none⟩ = some (.int .u8 0) from by have h_ := au.out.slot HLM.out j sD; rwa [HM.out] at h_); have Qv := au.out.frozen (2 + j); clear I HXX j3 kZ b9 bT bl an)))
     go_roundw
     case rel => exact ⟨k + 1, by omega, by go_num, ⟨by rw [HEQ.out]; exact ⟨HLM.out, _, _, au.out, bJ.out, ea.out⟩⟩, ⟨by rw [HEQ.out]; exact dt.out⟩, cd, bC, aA⟩
     case measure => simp [intOf]; omega
    ·have xx : (m == 0) = false := by rw [beq_eq_false_iff_ne]; exact sC
     have HEQ := ak (show relL b (l.take (k + 1)) = (⟨bm.addr, bm.aff, bm.slots.set j 0, bm.free ++ [(j : Int)], bm.attrs⟩, oo ++ [x]) by
      rw [HSU.out]
      unfold relF
      rw [if_pos (by rw [hhit]; simpa using sC)]
      rw [← hjq, hj.2])
     clear hpb hj hpl hjq hm hhit sC
     obtain ⟨fr, hfr⟩ : ∃ fr, fr = bm.free ++ [(j : Int)] := ⟨_, rfl⟩
     obtain ⟨o1, fT⟩ : ∃ o1, o1 = oo ++ [x] := ⟨_, rfl⟩
     rw [← hfr, ← fT] at HEQ
     have HFR := ak hfr
     have mZ := ak fT
     clear hfr fT
     go_wp2_with (first
      | ((with_reducible refine aJ (N := 25) rfl ?_); go_loud (refine aN rfl 57 (.tmp 2) rfl gX rfl _ _ _ HXX.out Try.underlying57 rfl 68 (by kernel_rfl) (ao _ _ _ _ _ HLM.out) ?_))
      | (go_at_call 92; go_loud (refine (HPL.out _ _ ⟨A1, c1, A2, c2, rfl, ⟨HLM.out, (rr j3).1, (rr j3).2, (rr kZ).1, (rr kZ).2⟩⟩).mono ?_; rintro e W1 ⟨rfl, I⟩; have au := mv I HXX; have bJ := mv I j3; have ea := mv I kZ; have dt := mv I b9; have cd := mv I bT; have bC := ak (Nat.le_trans bl.out I.size); have aA := ak (an.out.trans (I.mono an.out.size)); have Qu := (show W1.cell? ⟨gX, 2 + j, none⟩ = some (.int .u8 m) from by have h_ := au.out.slot HLM.out j sD; rwa [HM.out] at h_); have Qv := au.out.frozen (2 + j); clear I HXX j3 kZ b9 bT bl an))
      | ((with_reducible refine aJ (N := 42) rfl ?_); go_loud (generalize cr : W1.setCell ⟨gX, 2 + j, none⟩ (.int .u8 0) = W2; have J : W1.grownBy W2 (some gX) := (by rw [← cr]; exact bP _ _ _ _); have aI := ak (au.out.set (2 + j) (.int .u8 0)); have ch := gr bJ au J; have er := gr ea au J; have dv := gr dt au J; have de := gm cd aU J; have b4 := ak (Nat.le_trans bC.out J.size); have aK := gb aA cw J; rw [cr] at aI; clear cr J au bJ ea dt cd bC aA Qu Qv; rw [sL _ _ _ _ _ HLM.out j sD] at aI; have H8 := ak (show (bm.slots.set j 0).length = 64 by rw [List.length_set]; exact HLM.out); have Lq := aI.out.cell 66 _ (gF _ _ _ _ _ H8.out)))
      | ((with_reducible refine cy (b := .append) (xs := #[.tmp 43, .tmp 46]) rfl ?_); at_builtin; go_loud (refine Kd.R_append (Kd.int .u8) (w0 := W2) b1 rfl (.tmp 43) (.tmp 46) 48 5 (.int .u8 0) 1 rfl Try.underlying48 BM rfl (by decide) (by omega) _ bm.free (j : Int) [.int .u8 (j : Int)] (fun _ => True) (fun _ => False) rfl rfl rfl (fun _ hk => hk.elim) (fun _ _ => trivial) ch.out (Below.refl _ _) b4.out (by have := HFLN.out; omega) ?_; intro v_ W3 bc I J gp; rw [← HFR.out] at bc; have aQ := ak (aI.out.grown J (aI.out.ne_row ch.out (by decide))); have cW := ak (bc); have eG := ak (Kd.R_over er.out ch.out (by decide) J); have eS := ak (Kd.R_over dv.out ch.out (by decide) J); have cD := ak (de.out.grown J (de.out.ne_row ch.out (by decide))); have cH := ak (Nat.le_trans b4.out J.size); have aT := ak (aK.out.trans (I.mono cG.out)); obtain ⟨AF, cF, rfl⟩ := Kd.R_slice bc; have QJ := aQ.out.cell 66 _ (gF _ _ _ _ _ H8.out); have Si := aQ.out.frozen 66; clear bc I J gp aI ch er dv de b4 aK Lq))
      | ((with_reducible refine cy (b := .append) (xs := #[.tmp 49, .tmp 51]) rfl ?_); at_builtin; go_loud (generalize cr : W3.setCell ⟨gX, 66, none⟩ (.slice AF fr.length cF) = W4; have ox : W3.heap.size = W4.heap.size := (by rw [← cr]; simp [World.setCell]); have J : W3.grownBy W4 (some gX) := (by rw [← cr]; exact bP _ _ _ _); have bg := ak (aQ.out.set 66 (.slice AF fr.length cF)); have cU := gr cW aQ J; have eo := gr eG aQ J; have nC := gr eS aQ J; have bB := gm cD aU J; have dC := ak (Nat.le_trans cH.out J.size); have bq := gb aT cw J; rw [cr] at bg; clear cr J aQ cW eG eS cD cH aT QJ Si; rw [me _ _ _ _ _ H8.out] at bg; refine Kd.R_append (Kd.int .u32) (w0 := w) w.heap.size rfl (.tmp 49) (.tmp 51) 77 46 (.int .u32 0) 4 rfl Try.underlying77 ko rfl (by decide) (by omega) _ oo x [.int .u32 x] (fun _ => True) (fun _ => False) rfl (congrArg (fun n_ => Value.slice (some ⟨n_, 0, none⟩) 1 1) ox) rfl (fun _ hk => hk.elim) (fun _ _ => trivial) nC.out bq.out bq.out.size (by have := HOL.out; omega) ?_; intro v_ W5 bc I J gp; rw [← mZ.out] at bc; have bz := ak (bg.out.grown J (bg.out.ne_row nC.out (by decide))); have cQ := ak (Kd.R_over cU.out nC.out (by decide) J); have dJ := ak (Kd.R_over eo.out nC.out (by decide) J); have rh := ak (bc); have bY := ak (bB.out.grown J (bB.out.ne_row nC.out (by decide))); have dG := ak (Nat.le_trans dC.out J.size); have bE := ak (I); obtain ⟨AO, cO, rfl⟩ := Kd.R_slice bc; clear bc I J gp ox bg cU eo nC bB dC bq)))
     go_roundw
     case rel => exact ⟨k + 1, by omega, by go_num, ⟨by rw [HEQ.out]; exact ⟨H8.out, _, _, bz.out, cQ.out, dJ.out⟩⟩, ⟨by rw [HEQ.out]; exact rh.out⟩, bY, dG, bE⟩
     case measure => simp [intOf]; omega
   ·rw [if_neg hpb, decide_eq_false hpb] at hpl
    have HPL := ak hpl
    have HEQ := ak (show relL b (l.take (k + 1)) = (bm, oo) by
     rw [HSU.out]
     unfold relF
     rw [if_neg (by unfold ku; rw [decide_eq_false hpb]; simp)])
    clear hpb hpl
    go_wp2_with (first
     | ((with_reducible refine aJ (N := 25) rfl ?_); go_loud (refine aN rfl 57 (.tmp 2) rfl gX rfl _ _ _ HXX.out Try.underlying57 rfl 68 (by kernel_rfl) (ao _ _ _ _ _ HLM.out) ?_))
     | (go_at_call 92; go_loud (refine (HPL.out _ _ ⟨A1, c1, A2, c2, rfl, ⟨HLM.out, (rr j3).1, (rr j3).2, (rr kZ).1, (rr kZ).2⟩⟩).mono ?_; rintro e W1 ⟨rfl, I⟩; have au := mv I HXX; have bJ := mv I j3; have ea := mv I kZ; have dt := mv I b9; have cd := mv I bT; have bC := ak (Nat.le_trans bl.out I.size); have aA := ak (an.out.trans (I.mono an.out.size)); clear I HXX j3 kZ b9 bT bl an)))
    go_roundw
    case rel => exact ⟨k + 1, by omega, by go_num, ⟨by rw [HEQ.out]; exact ⟨HLM.out, _, _, au.out, bJ.out, ea.out⟩⟩, ⟨by rw [HEQ.out]; exact dt.out⟩, cd, bC, aA⟩
    case measure => simp [intOf]; omega
  ·obtain rfl : k = l.length := by omega
   have hkb : decide ((l.length : Int) < (l.length : Int)) = false := by simp
   rw [List.take_of_length_le (Nat.le_refl l.length)] at hro aZ b9
   have HBR := ak (show mV b l = lP (relL b l).1 from rfl)
   obtain ⟨rs, hrs⟩ : ∃ rs, rs = relL b l := ⟨_, rfl⟩
   have HRS := ak hrs
   rw [← hrs] at hro aZ b9 HBR
   obtain ⟨bm, oo⟩ := rs
   simp only at aZ b9 HBR
   have HCM := ak (fun v w base mw h => FJ bm hro.s8 (by rw [hro.attrs]; exact HAL.out) (fun s hs => by rw [hro.attrs]; exact hro.le s hs) v w base mw h)
   have HLM := ak hro.l64
   simp only at HLM
   obtain ⟨Ao, co, rfl⟩ := Kd.R_slice b9.out
   obtain ⟨A1, c1, A2, c2, DY, np, my⟩ := aZ.out.open
   have HXX := ak DY
   have j3 := ak np
   have kZ := ak my
   clear hro DY np my hrs aZ
   go_wp2_with (first
    | ((with_reducible refine aJ (N := 54) rfl ?_); go_loud (refine aN rfl 57 (.tmp 2) rfl gX rfl _ _ _ HXX.out Try.underlying57 rfl 68 (by kernel_rfl) (ao _ _ _ _ _ HLM.out) ?_))
    | (go_at_call 95; go_loud (refine (HCM.out _ _ b1 bl.out ⟨HLM.out, _, _, rfl, j3.out, kZ.out⟩).mono ?_; rintro e W1 ⟨v9, rfl, fS, I⟩; obtain ⟨Cv, sZ, ta, rfl, fP, fi⟩ := fS; obtain ⟨A8, c8, rfl⟩ := Kd.R_slice fP; obtain ⟨A9, c9, rfl⟩ := Kd.R_slice fi; have xN := ak Cv; have au := mv I HXX; have dt := mv I b9; have cd := mv I bT; have bC := ak (Nat.le_trans bl.out I.size); have aA := ak (an.out.trans (I.mono an.out.size)); have ee := ak (fP); have Rv := ak (fi); clear Cv fP fi I HXX b9 bT bl an))
    | (refine a7 rfl 57 (.tmp 4) (.tmp 55) rfl gZ (bk (lP bm).addr (lP bm).aff (lP bm).slots (.slice A8 (lP bm).free.length c8) (.slice A9 (lP bm).attrs.length c9)) rfl rfl 57 _ cd.out 68 (by kernel_rfl) (ao _ _ _ _ _ xN.out) rfl (cA _ _ _ _ _ rfl rfl) ?_; intro W2 aa J; have aI := gn au aU J; have dv := gr dt cd J; have de := ak (aa); have b4 := ak (Nat.le_trans bC.out J.size); have aK := gb aA ct J; have ej := gr ee cd J; have UR := gr Rv cd J; clear aa J au dt cd bC aA ee Rv))
   refine bodyPost_ret (jc rfl _ _ gZ 57 _ (0, 0) _ rfl de.out Try.underlying57 rfl (by simp only [List.size_toArray]; exact dc _ (ao _ _ _ _ _ xN.out))) rfl ⟨_, _, rfl, ?_, by rw [← HRS.out]; exact dv.out, aK.out⟩
   rw [HBR.out]
   exact ⟨xN.out, _, _, rfl, Kd.R_lower ej.out cG.out, Kd.R_lower UR.out cG.out⟩
theorem Fu (b : Bk) (hk : BkOk b) (l : List Int) (hu : ∀ x ∈ l, 0 ≤ x ∧ x < 4294967296) (hll : l.length ≤ 1000) (Al : Option Addr) (cl : Nat) (v : Value) (w : World) (h : jb w v b) (hC : Kd.C (Kd.int .u32) w Al l.length l) :
  Calls Try.prog 52 #[v, .slice Al l.length cl] w fun e w' => ∃ v' vo, e = .returned (.tuple #[v', vo, .int .i64 (if eE b = true then 0 else 1)]) ∧ eP w' w.heap.size v' (if eE b = true then mV b l else kC) ∧ Kd.R (Kd.int .u32) 46 w' w.heap.size (fun _ => True) vo (if eE b = true then (relL b l).2 else []) ∧ Below w.heap.size w w' := by
 cases hrt : eE b with
 | false => exact G4 b hk l hu hll Al cl hrt v w h hC
 | true => exact qq b hk l hu hll Al cl hrt v w h hC
end Go.Proofs.Ytemhalnhbgkbcaa.V
end

section
namespace Go.Proofs.Ytemhalnhbgkbcaa.V
theorem pd {b : Bk} (hk : BkOk b) (hf : cC b.addr = b.addr) (p : At → Bool) : ∀ x ∈ fb b p 64, 0 ≤ x ∧ x < 4294967296 := by
 intro x hx
 unfold fb at hx
 obtain ⟨i, hi, rfl⟩ := List.mem_map.1 hx
 have h1 := List.mem_range.1 (List.mem_filter.1 hi).1
 have h2 := hk.a0
 have h3 := hk.a1
 unfold cC at hf
 omega
def lB.T3 : Bool × List (List Nat × List Nat) := (true, [([], []), ([], []), ([], []), ([1, 2], [1, 2]), ([0, 3, 3], [0, 3]), ([4], [4]), ([4], [4]), ([4], [4]), ([5, 4, 0, 1, 2, 3, 4, 5, 6, 7], [5]), ([6, 8, 0, 1, 2, 3, 4, 5, 6, 7, 8], [6]), ([7, 9, 0, 1, 2, 3, 4, 5, 6, 7, 8, 9], [7])])
def lB.B3 : List Nat := [0, 0, 0, 6, 15, 31, 31, 31, 255, 511, 1023]
theorem lB.tab3 : eI .any (opsOf Try.f53 3) = lB.T3 := by kernel_rfl
theorem lB.bits3 : eb lB.T3.2 lB.B3 = true := by kernel_rfl
set_option maxHeartbeats 16000000 in
set_option maxRecDepth 100000 in
theorem CO (b : Bk) (hk : BkOk b) (id : ByteArray) (hrt : eE b = true) (v : Value) (w : World) (h : jb w v b) :
  Calls Try.prog 53 #[v, .string id] w fun e w' => ∃ v' vo, e = .returned (.tuple #[v', vo, .int .i64 0]) ∧ eP w' w.heap.size v' (mV b (fb b (fun a => a.f0.toList == id.toList) 64)) ∧ Kd.R (Kd.int .u32) 46 w' w.heap.size (fun _ => True) vo (relL b (fb b (fun a => a.f0.toList == id.toList) 64)).2 ∧ Below w.heap.size w w' := by
 obtain ⟨A, c, A', c', rfl, hr⟩ := h
 have HL := ak hr.l64
 have HR := ak hr
 have HK := ak hk
 have HRT := ak hrt
 have an := ak (Below.refl w.heap.size w)
 have HP := ak (jD hrt)
 clear hr hk hrt
 go_enter Try.func53, Try.ntmps53
 go_wp2_with (first
  | (refine aV rfl 57 (.tmp 0) rfl _ rfl ?_; intro gX W1 J aa I; have cw := ge an J; have aA := ak (an.out.trans (I.mono an.out.size)); have au := ak (aa); clear J aa I an)
  | ((with_reducible refine aJ (N := 4) rfl ?_); go_loud (obtain ⟨gI, J⟩ : ∃ g_, g_ = W1.heap.size := ⟨_, rfl⟩; rw [← J]; generalize cr : W1.alloc (.cells #[.string id] 9) = W2; have I : Below W1.heap.size W1 W2 := (by rw [← cr]; exact af (Below.refl _ _) _); have aa : aX W2 gI [.string id] 9 := (by rw [← cr, J]; exact heap_alloc_new W1 _); have gR : W1.heap.size ≤ gI := Nat.le_of_eq J.symm; have yn := ge aA gR; have nx := ne au gR; have aK := mv I aA; have aI := mv I au; have zh := ak (aa); clear cr I aa gR J aA au; refine aH (some 4) rfl rfl 57 rfl bu b6 ?_; intro gZ W3 J aa I; have ct := ge aK J; have aU := ne aI J; have KS := ne zh J; have aT := mv I aK; have aQ := mv I aI; have xP := mv I zh; have cD := ak (aa); clear J aa I aK aI zh))
  | ((with_reducible refine aJ (N := 7) rfl ?_); go_loud (refine aN rfl 57 (.tmp 2) rfl gX rfl _ _ _ aQ.out Try.underlying57 rfl 68 (by kernel_rfl) (ao _ _ _ _ _ HL.out) ?_))
  | (go_at_call 48; go_loud (refine (e8 b HK.out _ _ ⟨A, c, A', c', rfl, HR.out.below aT.out⟩).mono ?_; rintro e W4 ⟨rfl, I⟩; rw [HRT.out]; have bq := mv I aT; have bg := mv I aQ; have xO := mv I xP; have bB := mv I cD; clear I aT aQ xP cD)))
 have aq : Below W4.heap.size W4 W4.drew := bL (Below.refl _ _)
 have bE := mv aq bq; have bz := mv aq bg; have kA := mv aq xO; have bY := mv aq bB
 clear aq bq bg xO bB
 have HLL := ak (dc (bk b.addr b.aff b.slots (.slice A b.free.length c) (.slice A' b.attrs.length c')) (ao _ _ _ _ _ HL.out))
 refine dR (n := 11) (S := fun w' => aX w' gX (bk b.addr b.aff b.slots (.slice A b.free.length c) (.slice A' b.attrs.length c')) 57) (ds := []) #[false, false, false, false, false, false, false, false, false, false, false] (by kernel_rfl) rfl rfl bz.out (fun hHeld => ?_); refine b5 lB.tab3 lB.bits3 (fun ag bM => ?_)
 refine tk 0 ag.out bM.out hHeld ?_ (hv := by exact fun _ bj => aY 57 (.tmp 2) rfl gX rfl _ _ _ bj Try.underlying57 rfl HLL.out)
 refine tk 1 ag.out bM.out hHeld ?_ (hv := by exact fun _ bj => aY 57 (.tmp 2) rfl gX rfl _ _ _ bj Try.underlying57 rfl HLL.out)
 refine pu 2 ag.out ?_
 refine on 3 ag.out (fun K hK => ?_)
 refine gs Try.func96 #[.agg (bk b.addr b.aff b.slots (.slice A b.free.length c) (.slice A' b.attrs.length c')).toArray, .func (.func 97) #[] #[.pointer (some ⟨gI, 0, none⟩)]] (Fj b HK.out HP.out _ _ ⟨A, c, A', c', rfl, HR.out.below bE.out⟩ id gI kA.out) ?_
 rintro e V1 ⟨vo, rfl, bc, I⟩
 refine ⟨_, rfl, ?_⟩
 obtain ⟨U, hU⟩ : ∃ U, U = fb b (fun a => a.f0.toList == id.toList) 64 := ⟨_, rfl⟩; rw [← hU] at bc; have HU := ak hU; obtain ⟨Au, cu, rfl⟩ := Kd.R_slice bc; have bZ := mv I bE; have bH := mv I bz; have kY := mv I kA; have cn := mv I bY; have dI := ak (bc); clear hU bc I bE bz kA bY
 refine kn hK bH.out (fun hHeld => ?_)
 clear hK K
 refine on 4 ag.out (fun K hK => ?_)
 refine gs Try.func52 #[.agg (bk b.addr b.aff b.slots (.slice A b.free.length c) (.slice A' b.attrs.length c')).toArray, .slice Au U.length cu] (qq b HK.out U (by rw [HU.out]; exact pd HK.out HP.out.first _) (by rw [HU.out]; have := km b (fun a => a.f0.toList == id.toList) 64; omega) Au cu HRT.out _ _ ⟨A, c, A', c', rfl, HR.out.below bZ.out⟩ (Kd.R_reads' dI.out).2.2) ?_
 rintro e V2 ⟨v9, vq, rfl, fS, fM, I⟩
 refine ⟨_, rfl, ?_⟩
 obtain ⟨nb, hnb⟩ : ∃ nb, nb = mV b U := ⟨_, rfl⟩; obtain ⟨nq, hnq⟩ : ∃ nq, nq = (relL b U).2 := ⟨_, rfl⟩; rw [← hnb] at fS; rw [← hnq] at fM; have HNB := ak hnb; have HNQ := ak hnq; obtain ⟨Cv, sZ, ta, rfl, fP, fi⟩ := fS; obtain ⟨A8, c8, rfl⟩ := Kd.R_slice fP; obtain ⟨A9, c9, rfl⟩ := Kd.R_slice fi; obtain ⟨Aq, cq, rfl⟩ := Kd.R_slice fM; have xN := ak Cv; have HSZ := ak (show w.heap.size ≤ V1.heap.size from bZ.out.size); have eH := mv I bZ; have dP := mv I bH; have kJ := mv I kY; have ep := mv I cn; have fA := ak (fP); have ji := ak (fi); have kX := ak (fM); clear hnb hnq Cv fP fi fM I bZ bH kY cn
 refine kn hK dP.out (fun hHeld => ?_)
 clear hK K
 refine pu 5 ag.out ?_
 refine pu 6 ag.out ?_
 refine pu 7 ag.out ?_
 refine ow 8 ag.out (fun K hK => ?_)
 refine bS (by rfl) rfl 57 (.tmp 4) (.tmp 16) rfl gZ (bk nb.addr nb.aff nb.slots (.slice A8 nb.free.length c8) (.slice A9 nb.attrs.length c9)) rfl rfl 57 _ ep.out 68 (by kernel_rfl) (ao _ _ _ _ _ xN.out) rfl (cA _ _ _ _ _ rfl rfl) ?_
 intro V3 aa J; have gJ := gb eH ct J; have gH := gn dP aU J; have uJ := gx kJ ep J; have gG := ak (aa); have jw := gr fA ep J; have jv := gr ji ep J; have rf := gr kX ep J; clear aa J eH dP kJ ep fA ji kX
 refine hK.out _ _ gH.out (fun hHeld => ?_)
 clear hK K
 refine pu 9 ag.out ?_
 refine pu 10 ag.out ?_
 refine dn ag.out ?_
 try go_wp2
 refine bodyPost_ret (jc rfl _ _ gZ 57 _ (0, 0) _ rfl gG.out Try.underlying57 rfl (by simp only [List.size_toArray]; exact dc _ (ao _ _ _ _ _ xN.out))) rfl ⟨_, _, rfl, ?_, ?_, gJ.out⟩
 ·rw [← HU.out, ← HNB.out]; exact ⟨xN.out, _, _, rfl, Kd.R_lower jw.out HSZ.out, Kd.R_lower jv.out HSZ.out⟩
 ·rw [← HU.out, ← HNQ.out]; exact Kd.R_lower rf.out HSZ.out
def m7.T3 : Bool × List (List Nat × List Nat) := (true, [([], []), ([], []), ([], []), ([1, 2], [1, 2]), ([0, 3, 3], [0, 3]), ([4], [4]), ([4], [4]), ([4], [4]), ([5, 4, 0, 1, 2, 3, 4, 5, 6, 7], [5]), ([6, 8, 0, 1, 2, 3, 4, 5, 6, 7, 8], [6]), ([7, 9, 0, 1, 2, 3, 4, 5, 6, 7, 8, 9], [7])])
def m7.B3 : List Nat := [0, 0, 0, 6, 15, 31, 31, 31, 255, 511, 1023]
theorem m7.tab3 : eI .any (opsOf Try.f54 3) = m7.T3 := by kernel_rfl
theorem m7.bits3 : eb m7.T3.2 m7.B3 = true := by kernel_rfl
set_option maxHeartbeats 16000000 in
set_option maxRecDepth 100000 in
theorem Fv (b : Bk) (hk : BkOk b) (id : ByteArray) (hrt : eE b = true) (v : Value) (w : World) (h : jb w v b) :
  Calls Try.prog 54 #[v, .string id] w fun e w' => ∃ v' vo, e = .returned (.tuple #[v', vo, .int .i64 0]) ∧ eP w' w.heap.size v' (mV b (fb b (fun a => a.f1.toList == id.toList) 64)) ∧ Kd.R (Kd.int .u32) 46 w' w.heap.size (fun _ => True) vo (relL b (fb b (fun a => a.f1.toList == id.toList) 64)).2 ∧ Below w.heap.size w w' := by
 obtain ⟨A, c, A', c', rfl, hr⟩ := h
 have HL := ak hr.l64
 have HR := ak hr
 have HK := ak hk
 have HRT := ak hrt
 have an := ak (Below.refl w.heap.size w)
 have HP := ak (jD hrt)
 clear hr hk hrt
 go_enter Try.func54, Try.ntmps54
 go_wp2_with (first
  | (refine aV rfl 57 (.tmp 0) rfl _ rfl ?_; intro gX W1 J aa I; have cw := ge an J; have aA := ak (an.out.trans (I.mono an.out.size)); have au := ak (aa); clear J aa I an)
  | ((with_reducible refine aJ (N := 4) rfl ?_); go_loud (obtain ⟨gI, J⟩ : ∃ g_, g_ = W1.heap.size := ⟨_, rfl⟩; rw [← J]; generalize cr : W1.alloc (.cells #[.string id] 9) = W2; have I : Below W1.heap.size W1 W2 := (by rw [← cr]; exact af (Below.refl _ _) _); have aa : aX W2 gI [.string id] 9 := (by rw [← cr, J]; exact heap_alloc_new W1 _); have gR : W1.heap.size ≤ gI := Nat.le_of_eq J.symm; have yn := ge aA gR; have nx := ne au gR; have aK := mv I aA; have aI := mv I au; have zh := ak (aa); clear cr I aa gR J aA au; refine aH (some 4) rfl rfl 57 rfl bu b6 ?_; intro gZ W3 J aa I; have ct := ge aK J; have aU := ne aI J; have KS := ne zh J; have aT := mv I aK; have aQ := mv I aI; have xP := mv I zh; have cD := ak (aa); clear J aa I aK aI zh))
  | ((with_reducible refine aJ (N := 7) rfl ?_); go_loud (refine aN rfl 57 (.tmp 2) rfl gX rfl _ _ _ aQ.out Try.underlying57 rfl 68 (by kernel_rfl) (ao _ _ _ _ _ HL.out) ?_))
  | (go_at_call 48; go_loud (refine (e8 b HK.out _ _ ⟨A, c, A', c', rfl, HR.out.below aT.out⟩).mono ?_; rintro e W4 ⟨rfl, I⟩; rw [HRT.out]; have bq := mv I aT; have bg := mv I aQ; have xO := mv I xP; have bB := mv I cD; clear I aT aQ xP cD)))
 have aq : Below W4.heap.size W4 W4.drew := bL (Below.refl _ _)
 have bE := mv aq bq; have bz := mv aq bg; have kA := mv aq xO; have bY := mv aq bB
 clear aq bq bg xO bB
 have HLL := ak (dc (bk b.addr b.aff b.slots (.slice A b.free.length c) (.slice A' b.attrs.length c')) (ao _ _ _ _ _ HL.out))
 refine dR (n := 11) (S := fun w' => aX w' gX (bk b.addr b.aff b.slots (.slice A b.free.length c) (.slice A' b.attrs.length c')) 57) (ds := []) #[false, false, false, false, false, false, false, false, false, false, false] (by kernel_rfl) rfl rfl bz.out (fun hHeld => ?_); refine b5 m7.tab3 m7.bits3 (fun ag bM => ?_)
 refine tk 0 ag.out bM.out hHeld ?_ (hv := by exact fun _ bj => aY 57 (.tmp 2) rfl gX rfl _ _ _ bj Try.underlying57 rfl HLL.out)
 refine tk 1 ag.out bM.out hHeld ?_ (hv := by exact fun _ bj => aY 57 (.tmp 2) rfl gX rfl _ _ _ bj Try.underlying57 rfl HLL.out)
 refine pu 2 ag.out ?_
 refine on 3 ag.out (fun K hK => ?_)
 refine gs Try.func96 #[.agg (bk b.addr b.aff b.slots (.slice A b.free.length c) (.slice A' b.attrs.length c')).toArray, .func (.func 98) #[] #[.pointer (some ⟨gI, 0, none⟩)]] (Iu b HK.out HP.out _ _ ⟨A, c, A', c', rfl, HR.out.below bE.out⟩ id gI kA.out) ?_
 rintro e V1 ⟨vo, rfl, bc, I⟩
 refine ⟨_, rfl, ?_⟩
 obtain ⟨U, hU⟩ : ∃ U, U = fb b (fun a => a.f1.toList == id.toList) 64 := ⟨_, rfl⟩; rw [← hU] at bc; have HU := ak hU; obtain ⟨Au, cu, rfl⟩ := Kd.R_slice bc; have bZ := mv I bE; have bH := mv I bz; have kY := mv I kA; have cn := mv I bY; have dI := ak (bc); clear hU bc I bE bz kA bY
 refine kn hK bH.out (fun hHeld => ?_)
 clear hK K
 refine on 4 ag.out (fun K hK => ?_)
 refine gs Try.func52 #[.agg (bk b.addr b.aff b.slots (.slice A b.free.length c) (.slice A' b.attrs.length c')).toArray, .slice Au U.length cu] (qq b HK.out U (by rw [HU.out]; exact pd HK.out HP.out.first _) (by rw [HU.out]; have := km b (fun a => a.f1.toList == id.toList) 64; omega) Au cu HRT.out _ _ ⟨A, c, A', c', rfl, HR.out.below bZ.out⟩ (Kd.R_reads' dI.out).2.2) ?_
 rintro e V2 ⟨v9, vq, rfl, fS, fM, I⟩
 refine ⟨_, rfl, ?_⟩
 obtain ⟨nb, hnb⟩ : ∃ nb, nb = mV b U := ⟨_, rfl⟩; obtain ⟨nq, hnq⟩ : ∃ nq, nq = (relL b U).2 := ⟨_, rfl⟩; rw [← hnb] at fS; rw [← hnq] at fM; have HNB := ak hnb; have HNQ := ak hnq; obtain ⟨Cv, sZ, ta, rfl, fP, fi⟩ := fS; obtain ⟨A8, c8, rfl⟩ := Kd.R_slice fP; obtain ⟨A9, c9, rfl⟩ := Kd.R_slice fi; obtain ⟨Aq, cq, rfl⟩ := Kd.R_slice fM; have xN := ak Cv; have HSZ := ak (show w.heap.size ≤ V1.heap.size from bZ.out.size); have eH := mv I bZ; have dP := mv I bH; have kJ := mv I kY; have ep := mv I cn; have fA := ak (fP); have ji := ak (fi); have kX := ak (fM); clear hnb hnq Cv fP fi fM I bZ bH kY cn
 refine kn hK dP.out (fun hHeld => ?_)
 clear hK K
 refine pu 5 ag.out ?_
 refine pu 6 ag.out ?_
 refine pu 7 ag.out ?_
 refine ow 8 ag.out (fun K hK => ?_)
 refine bS (by rfl) rfl 57 (.tmp 4) (.tmp 16) rfl gZ (bk nb.addr nb.aff nb.slots (.slice A8 nb.free.length c8) (.slice A9 nb.attrs.length c9)) rfl rfl 57 _ ep.out 68 (by kernel_rfl) (ao _ _ _ _ _ xN.out) rfl (cA _ _ _ _ _ rfl rfl) ?_
 intro V3 aa J; have gJ := gb eH ct J; have gH := gn dP aU J; have uJ := gx kJ ep J; have gG := ak (aa); have jw := gr fA ep J; have jv := gr ji ep J; have rf := gr kX ep J; clear aa J eH dP kJ ep fA ji kX
 refine hK.out _ _ gH.out (fun hHeld => ?_)
 clear hK K
 refine pu 9 ag.out ?_
 refine pu 10 ag.out ?_
 refine dn ag.out ?_
 try go_wp2
 refine bodyPost_ret (jc rfl _ _ gZ 57 _ (0, 0) _ rfl gG.out Try.underlying57 rfl (by simp only [List.size_toArray]; exact dc _ (ao _ _ _ _ _ xN.out))) rfl ⟨_, _, rfl, ?_, ?_, gJ.out⟩
 ·rw [← HU.out, ← HNB.out]; exact ⟨xN.out, _, _, rfl, Kd.R_lower jw.out HSZ.out, Kd.R_lower jv.out HSZ.out⟩
 ·rw [← HU.out, ← HNQ.out]; exact Kd.R_lower rf.out HSZ.out
end Go.Proofs.Ytemhalnhbgkbcaa.V
end

section
namespace Go.Proofs.Ytemhalnhbgkbcaa.V
attribute [local go_sem] dA dy ed ec cP cN dz dx
def bW.l0 : Nat → List Int → List Int → Int → Int → Option (Bool)
 | 0, _, _, _, _ => none
 | k + 1, x0, x1, yr, lQ => if lQ < yr then (if 0 ≤ lQ then (if lQ < (x0.length : Int) then (if lQ < (x1.length : Int) then (if (rd x0 lQ) = (rd x1 lQ) then (bW.l0 k x0 x1 yr (wrap64 (lQ + 1))) else (some false)) else (none)) else (none)) else (none)) else (some true)
def bW.f (k : Nat) (l0 : List Int) (l1 : List Int) : Option (Bool) := if (l0.length : Int) = (l1.length : Int) then (bW.l0 k l0 l1 (l1.length : Int) 0) else (some false)
theorem bW.mono_l : ∀ k, (∀ y0 y1 y2 y3, aC (bW.l0 k y0 y1 y2 y3) (bW.l0 (k + 1) y0 y1 y2 y3))
 | 0 => fun _ _ _ _ r h => by simp [bW.l0] at h
 | k + 1 => by
  have cE := bW.mono_l k
  ·intro y0 y1 y2 y3
   unfold bW.l0
   repeat' first
   | (with_reducible exact cE _ _ _ _)
   | (with_reducible exact aC.refl _)
   | (with_reducible exact aC.none _)
   | (with_reducible refine aC.ite ?_ ?_)
   | (with_reducible refine aC.bind ?_ (fun _ => ?_))
   | exact cE _ _ _ _
   | exact aC.none _
   | refine aC.ite ?_ ?_
   | refine aC.bind ?_ (fun _ => ?_)
theorem bW.mono : ∀ a0 a1 k, aC (bW.f k a0 a1) (bW.f (k + 1) a0 a1) := by
 intro a0 a1 k
 have cE := bW.mono_l k
 unfold bW.f
 repeat' first
   | (with_reducible exact cE _ _ _ _)
   | (with_reducible exact aC.refl _)
   | (with_reducible exact aC.none _)
   | (with_reducible refine aC.ite ?_ ?_)
   | (with_reducible refine aC.bind ?_ (fun _ => ?_))
   | exact cE _ _ _ _
   | exact aC.none _
   | refine aC.ite ?_ ?_
   | refine aC.bind ?_ (fun _ => ?_)
set_option maxHeartbeats 8000000 in
set_option maxRecDepth 100000 in
theorem bW.calls (k : Nat) (A0 : Option Addr) (c0 : Nat) (l0 : List Int) (A1 : Option Addr) (c1 : Nat) (l1 : List Int) (r : Bool) (w : World) (lM : Kd.C (Kd.int .u32) w A0 l0.length l0) (jC : l0.length ≤ c0) (wG : Kd.C (Kd.int .u32) w A1 l1.length l1) (vJ : l1.length ≤ c1) (h : bW.f k l0 l1 = some r) :
  Calls Try.prog 61 #[.slice A0 l0.length c0, .slice A1 l1.length c1] w fun e w' => e = .returned (.bool r) ∧ Drawn0 w w' := by
 have n7 := ak lM
 have xT := ak jC
 clear lM jC
 have mG := ak wG
 have GQ := ak vJ
 clear wG vJ
 have H : (if (l0.length : Int) = (l1.length : Int) then (bW.l0 k l0 l1 (l1.length : Int) 0) else (some false)) = some r := h
 clear h
 by_cases c3 : (l0.length : Int) = (l1.length : Int)
 ·rw [if_pos c3] at H
  have kT : ((l0.length : Int) == (l1.length : Int)) = true := beq_iff_eq.mpr c3
  have qj : ((l0.length : Int) != (l1.length : Int)) = false := bne_eq_false_iff_eq.mpr c3
  have EM : (l0.length == l1.length) = true := by first | simpa using c3 | (simp at c3 ⊢; omega)
  clear c3
  have H' := ak H
  clear H
  go_enter Try.func61, Try.ntmps61
  go_wp2
  repeat (go_quiet (fail); try go_wp2)
  go_loopg [13] k (fun kq Dp w' => ∃ (bG : Int), Dp = .int .i64 bG ∧ Aside0 (bW.l0 kq l0 l1 (l1.length : Int) bG = some r) ∧ Aside0 (kq ≤ k) ∧ Drawn0 w w')
  case atStart => exact ⟨(0), (by first | rfl | (simp; done) | (simp [*]; done)), H', ⟨Nat.le_refl _⟩, by repeat (first | exact Drawn0.refl _ | apply Drawn0.step)⟩
  case round =>
   clear H'
   obtain ⟨bG, rfl, HA, dq, ⟨m1, rfl⟩⟩ := hrel
   cases gk with
   | zero => exact absurd HA.out (by simp [bW.l0])
   | succ k1 =>
    have H := HA.out
    clear HA
    simp only [bW.l0] at H
    by_cases c4 : bG < (l1.length : Int)
    ·rw [if_pos c4] at H
     have jG : decide (bG < (l1.length : Int)) = true := decide_eq_true c4
     clear c4
     by_cases c5 : 0 ≤ bG
     ·rw [if_pos c5] at H
      have zb : decide (0 ≤ bG) = true := decide_eq_true c5
      clear c5
      by_cases c6 : bG < (l0.length : Int)
      ·rw [if_pos c6] at H
       have oK : decide (bG < (l0.length : Int)) = true := decide_eq_true c6
       clear c6
       by_cases c7 : bG < (l1.length : Int)
       ·rw [if_pos c7] at H
        have lh : decide (bG < (l1.length : Int)) = true := decide_eq_true c7
        clear c7
        by_cases c8 : (rd l0 bG) = (rd l1 bG)
        ·rw [if_pos c8] at H
         have sK : ((rd l0 bG) == (rd l1 bG)) = true := beq_iff_eq.mpr c8
         have EG : ((rd l0 bG) != (rd l1 bG)) = false := bne_eq_false_iff_eq.mpr c8
         clear c8
         have H' := ak H
         clear H
         have su : 0 ≤ (bG : Int) := of_decide_eq_true (by first | (with_reducible assumption) | assumption)
         have sg : bG < (l0.length : Int) := of_decide_eq_true (by first | (with_reducible assumption) | assumption)
         obtain ⟨Pz, EA, Jd⟩ := Kd.at_int n7.out bG su sg
         cases EA
         replace su := eq_true su
         replace sg := eq_true sg
         have ss : 0 ≤ (bG : Int) := of_decide_eq_true (by first | (with_reducible assumption) | assumption)
         have sf : bG < (l1.length : Int) := of_decide_eq_true (by first | (with_reducible assumption) | assumption)
         obtain ⟨Py, Ez, Jc⟩ := Kd.at_int mG.out bG ss sf
         cases Ez
         replace ss := eq_true ss
         replace sf := eq_true sf
         go_wp2
         repeat (go_quiet (fail); try go_wp2)
         go_roundg k1
         case measure => have := dq.out; omega
         case rel => exact ⟨(wrap64 (bG + 1)), (by first | rfl | (simp; done) | (simp [*]; done)), H', ⟨by have := dq.out; omega⟩, by repeat (first | exact Drawn0.refl _ | apply Drawn0.step)⟩
        ·rw [if_neg c8] at H
         have sK : ((rd l0 bG) == (rd l1 bG)) = false := beq_eq_false_iff_ne.mpr c8
         have EG : ((rd l0 bG) != (rd l1 bG)) = true := bne_iff_ne.mpr c8
         obtain rfl := Option.some.inj H
         have su : 0 ≤ (bG : Int) := of_decide_eq_true (by first | (with_reducible assumption) | assumption)
         have sg : bG < (l0.length : Int) := of_decide_eq_true (by first | (with_reducible assumption) | assumption)
         obtain ⟨Pz, EA, Jd⟩ := Kd.at_int n7.out bG su sg
         cases EA
         replace su := eq_true su
         replace sg := eq_true sg
         have ss : 0 ≤ (bG : Int) := of_decide_eq_true (by first | (with_reducible assumption) | assumption)
         have sf : bG < (l1.length : Int) := of_decide_eq_true (by first | (with_reducible assumption) | assumption)
         obtain ⟨Py, Ez, Jc⟩ := Kd.at_int mG.out bG ss sf
         cases Ez
         replace ss := eq_true ss
         replace sf := eq_true sf
         go_wp2
         repeat (go_quiet (fail); try go_wp2)
         go_ret
         exact ⟨by first | rfl | (simp; done) | (simp [*]; done), by repeat (first | exact Drawn0.refl _ | apply Drawn0.step)⟩
       ·rw [if_neg c7] at H
        exact absurd H (by simp)
      ·rw [if_neg c6] at H
       exact absurd H (by simp)
     ·rw [if_neg c5] at H
      exact absurd H (by simp)
    ·rw [if_neg c4] at H
     have jG : decide (bG < (l1.length : Int)) = false := decide_eq_false c4
     clear c4
     obtain rfl := Option.some.inj H
     go_wp2
     repeat (go_quiet (fail); try go_wp2)
     go_ret
     exact ⟨by first | rfl | (simp; done) | (simp [*]; done), by repeat (first | exact Drawn0.refl _ | apply Drawn0.step)⟩
 ·rw [if_neg c3] at H
  have kT : ((l0.length : Int) == (l1.length : Int)) = false := beq_eq_false_iff_ne.mpr c3
  have qj : ((l0.length : Int) != (l1.length : Int)) = true := bne_iff_ne.mpr c3
  have EM : (l0.length == l1.length) = false := by first | simpa using c3 | (simp at c3 ⊢; omega)
  obtain rfl := Option.some.inj H
  go_enter Try.func61, Try.ntmps61
  go_wp2
  repeat (go_quiet (fail); try go_wp2)
  go_ret
  exact ⟨by first | rfl | (simp; done) | (simp [*]; done), by repeat (first | exact Drawn0.refl _ | apply Drawn0.step)⟩
end Go.Proofs.Ytemhalnhbgkbcaa.V
end

section
namespace Go.Proofs.Ytemhalnhbgkbcaa.V
theorem KP (l : List Int) (hl : l.length ≤ 1000) : ∀ (d k i : Nat), i + d = l.length → d < k → bW.l0 k l l (l.length : Int) (i : Int) = some true := by
 intro d
 induction d with
 | zero =>
  intro k i hi hk
  obtain ⟨k, rfl⟩ : ∃ m, k = m + 1 := ⟨k - 1, by omega⟩
  rw [bW.l0, if_neg (by omega)]
 | succ d ih =>
  intro k i hi hk
  obtain ⟨k, rfl⟩ : ∃ m, k = m + 1 := ⟨k - 1, by omega⟩
  rw [bW.l0, if_pos (by omega), if_pos (by omega), if_pos (by omega), if_pos (by omega), if_pos rfl, iC _ (by omega) (by omega), show (i : Int) + 1 = ((i + 1 : Nat) : Int) by omega]
  exact ih k (i + 1) (by omega) (by omega)
theorem vT (s : ByteArray) (hs : s.size ≤ 9223372036854775807) (w : World) : Calls Try.prog 42 #[.string s] w fun e w' => e = .returned (.bool (gg s)) ∧ Below w.heap.size w w' :=
 (bx.calls 9223372036854775808 s _ w (Fx s hs _ (Nat.le_refl _))).mono (by
  rintro e w' ⟨rfl, ⟨nd, rfl⟩⟩
  exact ⟨rfl, ab (Below.refl _ _) nd⟩)
theorem xv {x0 x1 x2 x3 x4 x5 : Value} : ∀ (j : Nat) (v : Value), [x2, x3][j]? = some v → [x0, x1, x2, x3, x4, x5][2 + j]? = some v := by
 intro j v h
 match j, h with
 | 0, h => exact h
 | 1, h => exact h
 | j + 2, h => simp at h
theorem pg {o : Oper} {a : Act} {w : World} (ty : TypeId) (x : Operand) (ho : o.op = .load ty x) (g off : Nat) (hx : a.eval x = .pointer (some ⟨g, off, none⟩)) (t : Nat) (cs part : List Value) (d : TypeDesc) (hb : aX w g cs t)
  (hp : ∀ j v, part[j]? = some v → cs[off + j]? = some v)
  (hu : Try.prog.underlying ty = some d) (hd : (match d with | .struct _ | .array _ _ => true | _ => false) = true) (hi : (Try.prog.info? ty).map (·.size) = some part.length) :
  (execOp a.eval o).run Try.prog w = .ok (.value (.agg part.toArray)) w := by
 unfold execOp
 simp only [ho, hx, Instr.loadAt, Instr.sureAddr, Sem.run_bind, Sem.run_pure, Result.andThen_ok, rX w g t off ty cs part d hb hp hu (by cases d <;> exact hd) hi]
theorem rB (oo : List Int) (hl : oo.length ≤ 1000) (A A' : Option Addr) (c c' : Nat) (w : World) (h : Kd.C (Kd.int .u32) w A oo.length oo) (hc : oo.length ≤ c) (h' : Kd.C (Kd.int .u32) w A' oo.length oo) (hc' : oo.length ≤ c') :
  Calls Try.prog 61 #[.slice A oo.length c, .slice A' oo.length c'] w fun e w' => e = .returned (.bool true) ∧ Below w.heap.size w w' :=
 (bW.calls (oo.length + 1) A c oo A' c' oo true w h hc h' hc' (by
  unfold bW.f
  rw [if_pos rfl]
  exact KP oo hl oo.length _ 0 (by omega) (by omega))).mono (by
  rintro e w' ⟨rfl, ⟨nd, rfl⟩⟩
  exact ⟨rfl, ab (Below.refl _ _) nd⟩)
def qY.T7 : Bool × List (List Nat × List Nat) := (true, [([], []), ([], []), ([1], [1]), ([], []), ([3], [3]), ([4], [4]), ([0, 2, 5, 5], [0, 2, 5]), ([6], [6]), ([7], [7]), ([7], [7]), ([7], [7]), ([], []), ([11, 8, 6, 0, 1, 2, 3, 4, 5, 6, 7, 8, 11], [8, 11]), ([9, 12, 0, 1, 2, 3, 4, 5, 6, 7, 8, 9, 11, 12], [9]), ([10, 13, 0, 1, 2, 3, 4, 5, 6, 7, 8, 9, 10, 11, 12, 13], [10])])
def qY.B7 : List Nat := [0, 0, 2, 0, 8, 24, 63, 127, 255, 255, 255, 0, 2559, 7167, 16383]
theorem qY.tab7 : eI .any (opsOf Try.f47 7) = qY.T7 := by kernel_rfl
theorem qY.bits7 : eb qY.T7.2 qY.B7 = true := by kernel_rfl
def uA.T9 : Bool × List (List Nat × List Nat) := (true, [([], []), ([], []), ([], []), ([2], [2]), ([3], [3]), ([4], [4]), ([5, 4, 4], [4, 5]), ([4, 6], [4, 6]), ([7, 6], [7]), ([8], [8]), ([9, 8], [8, 9]), ([10, 8], [8, 10]), ([8, 11], [8, 11]), ([0, 8, 0], [0]), ([1, 13, 0, 1, 13], [1]), ([12, 14, 0, 1, 2, 3, 4, 5, 6, 7, 8, 9, 10, 11, 12, 13, 14], [12])])
def uA.B9 : List Nat := [0, 0, 0, 4, 12, 28, 60, 124, 252, 508, 1020, 2044, 4092, 509, 8703, 32767]
theorem uA.tab9 : eI .any (opsOf Try.f47 9) = uA.T9 := by kernel_rfl
theorem uA.bits9 : eb uA.T9.2 uA.B9 = true := by kernel_rfl
def tn.T11 : Bool × List (List Nat × List Nat) := (true, [([], []), ([], []), ([], []), ([2], [2]), ([3], [3]), ([4], [4]), ([4], [4]), ([5, 6, 4, 4], [4, 5, 6]), ([4, 7], [4, 7]), ([0, 7, 0], [0]), ([1, 9, 0, 1, 9], [1]), ([8, 10, 0, 1, 2, 3, 4, 5, 6, 7, 8, 9, 10], [8])])
def tn.B11 : List Nat := [0, 0, 0, 4, 12, 28, 28, 124, 252, 253, 767, 2047]
theorem tn.tab11 : eI .any (opsOf Try.f47 11) = tn.T11 := by kernel_rfl
theorem tn.bits11 : eb tn.T11.2 tn.B11 = true := by kernel_rfl
def tm.T15 : Bool × List (List Nat × List Nat) := (true, [([], []), ([], []), ([], []), ([2], [2]), ([3], [3]), ([], []), ([5], [5]), ([0, 1, 4, 6], [0, 1, 4, 6]), ([7], [7]), ([7], [7]), ([7], [7]), ([8, 7, 0, 1, 2, 3, 4, 5, 6, 7, 8, 9, 10], [8]), ([9, 11, 0, 1, 2, 3, 4, 5, 6, 7, 8, 9, 10, 11], [9]), ([10, 12, 0, 1, 2, 3, 4, 5, 6, 7, 8, 9, 10, 11, 12], [10])])
def tm.B15 : List Nat := [0, 0, 0, 4, 12, 0, 32, 127, 255, 255, 255, 2047, 4095, 8191]
theorem tm.tab15 : eI .any (opsOf Try.f47 15) = tm.T15 := by kernel_rfl
theorem tm.bits15 : eb tm.T15.2 tm.B15 = true := by kernel_rfl
def tl.T19 : Bool × List (List Nat × List Nat) := (true, [([], []), ([], []), ([], []), ([2], [2]), ([3], [3]), ([4], [4]), ([4], [4]), ([5, 6, 4, 4], [4, 5, 6]), ([4, 7], [4, 7]), ([0, 7, 0], [0]), ([1, 9, 0, 1, 9], [1]), ([8, 10, 0, 1, 2, 3, 4, 5, 6, 7, 8, 9, 10], [8])])
def tl.B19 : List Nat := [0, 0, 0, 4, 12, 28, 28, 124, 252, 253, 767, 2047]
theorem tl.tab19 : eI .any (opsOf Try.f47 19) = tl.T19 := by kernel_rfl
theorem tl.bits19 : eb tl.T19.2 tl.B19 = true := by kernel_rfl
def tj.T23 : Bool × List (List Nat × List Nat) := (true, [([], []), ([], []), ([], []), ([2], [2]), ([3], [3]), ([1, 4], [1, 4]), ([0, 5, 5], [0, 5]), ([6], [6]), ([7], [7]), ([7], [7]), ([], []), ([10, 8, 6, 0, 1, 2, 3, 4, 5, 6, 7, 8, 10], [8, 10]), ([9, 11, 0, 1, 2, 3, 4, 5, 6, 7, 8, 9, 10, 11], [9])])
def tj.B23 : List Nat := [0, 0, 0, 4, 12, 30, 63, 127, 255, 255, 0, 1535, 4095]
theorem tj.tab23 : eI .any (opsOf Try.f47 23) = tj.T23 := by kernel_rfl
theorem tj.bits23 : eb tj.T23.2 tj.B23 = true := by kernel_rfl
def ti.T24 : Bool × List (List Nat × List Nat) := (true, [([], []), ([], []), ([], []), ([2], [2]), ([3], [3]), ([4], [4]), ([4], [4]), ([5, 6, 4, 4], [4, 5, 6]), ([4, 7], [4, 7]), ([0, 7, 0], [0]), ([1, 9, 0, 1, 9], [1]), ([8, 10, 0, 1, 2, 3, 4, 5, 6, 7, 8, 9, 10], [8])])
def ti.B24 : List Nat := [0, 0, 0, 4, 12, 28, 28, 124, 252, 253, 767, 2047]
theorem ti.tab24 : eI .any (opsOf Try.f47 24) = ti.T24 := by kernel_rfl
theorem ti.bits24 : eb ti.T24.2 ti.B24 = true := by kernel_rfl
def th.T28 : Bool × List (List Nat × List Nat) := (true, [([], []), ([], []), ([], []), ([2], [2]), ([3], [3]), ([1, 4], [1, 4]), ([0, 5, 5], [0, 5]), ([6], [6]), ([7], [7]), ([7], [7]), ([], []), ([10, 8, 6, 0, 1, 2, 3, 4, 5, 6, 7, 8, 10], [8, 10]), ([9, 11, 0, 1, 2, 3, 4, 5, 6, 7, 8, 9, 10, 11], [9])])
def th.B28 : List Nat := [0, 0, 0, 4, 12, 30, 63, 127, 255, 255, 0, 1535, 4095]
theorem th.tab28 : eI .any (opsOf Try.f47 28) = th.T28 := by kernel_rfl
theorem th.bits28 : eb th.T28.2 th.B28 = true := by kernel_rfl
def tg.T29 : Bool × List (List Nat × List Nat) := (true, [([], []), ([], []), ([], []), ([2], [2]), ([3], [3]), ([4], [4]), ([4], [4]), ([5, 6, 4, 4], [4, 5, 6]), ([4, 7], [4, 7]), ([0, 7, 0], [0]), ([1, 9, 0, 1, 9], [1]), ([8, 10, 0, 1, 2, 3, 4, 5, 6, 7, 8, 9, 10], [8])])
def tg.B29 : List Nat := [0, 0, 0, 4, 12, 28, 28, 124, 252, 253, 767, 2047]
theorem tg.tab29 : eI .any (opsOf Try.f47 29) = tg.T29 := by kernel_rfl
theorem tg.bits29 : eb tg.T29.2 tg.B29 = true := by kernel_rfl
def tf.T33 : Bool × List (List Nat × List Nat) := (true, [([], []), ([], []), ([], []), ([2], [2]), ([3], [3]), ([4], [4]), ([5, 4, 4], [4, 5]), ([4, 6], [4, 6]), ([0, 6, 0], [0]), ([1, 8, 0, 1, 8], [1]), ([7, 9, 0, 1, 2, 3, 4, 5, 6, 7, 8, 9], [7])])
def tf.B33 : List Nat := [0, 0, 0, 4, 12, 28, 60, 124, 125, 383, 1023]
theorem tf.tab33 : eI .any (opsOf Try.f47 33) = tf.T33 := by kernel_rfl
theorem tf.bits33 : eb tf.T33.2 tf.B33 = true := by kernel_rfl
def te.T36 : Bool × List (List Nat × List Nat) := (true, [([], []), ([], []), ([], []), ([2], [2]), ([0, 0], [0]), ([1, 4, 0, 1, 4], [1]), ([3, 5, 0, 1, 2, 3, 4, 5], [3])])
def te.B36 : List Nat := [0, 0, 0, 4, 1, 19, 63]
theorem te.tab36 : eI .any (opsOf Try.f47 36) = te.T36 := by kernel_rfl
theorem te.bits36 : eb te.T36.2 te.B36 = true := by kernel_rfl
def mW.T37 : Bool × List (List Nat × List Nat) := (true, [([], []), ([], []), ([0, 0], [0]), ([1, 2, 0, 1, 2], [1]), ([3, 0, 1, 2, 3], [])])
def mW.B37 : List Nat := [0, 0, 1, 7, 15]
theorem mW.tab37 : eI .any (opsOf Try.f47 37) = mW.T37 := by kernel_rfl
theorem mW.bits37 : eb mW.T37.2 mW.B37 = true := by kernel_rfl
end Go.Proofs.Ytemhalnhbgkbcaa.V
end

section
namespace Go.Proofs.Ytemhalnhbgkbcaa.V
set_option maxHeartbeats 16000000 in
set_option maxRecDepth 100000 in
theorem Q4 (b : Bk) (hg : RG b) (n : Int) (hn : n < 9223372036854775808) (a : lN) (fE : a.f0.size ≤ 9223372036854775807) (gh : a.f1.size ≤ 9223372036854775807) (l : List Int) (hu : ∀ x ∈ l, 0 ≤ x ∧ x < 4294967296) (hlm : l.length ≤ 9223372036854775807) (Al : Option Addr) (cl : Nat) (hcl : l.length ≤ cl) (aff : ByteArray) (hza : aff.size ≤ 9223372036854775807) (how : gg aff = true) (v v2 : Value) (w : World) (base : Nat) (hbase : base ≤ w.heap.size) (hO : eP w base v b) (hR : fw w base v2 b) (hC : Kd.C (Kd.int .u32) w Al l.length l) :
  Calls Try.prog 47 #[v, v2, .agg #[.int .i64 7, .int .i64 n, .string a.f0, .string a.f1, .slice Al l.length cl, .string aff]] w fun e w' => ∃ v1 v2 b', e = .returned (.tuple #[v1, v2, .bool true]) ∧ RG b' ∧ eP w' base v1 b' ∧ fw w' base v2 b' ∧ Below w.heap.size w w' := by
 obtain ⟨hl, vf, va, rfl, hf, ha⟩ := hO
 obtain ⟨vs, vp, vm, rfl, hs, hp, hm⟩ := hR
 obtain ⟨Af, cf, rfl⟩ := Kd.R_slice hf
 obtain ⟨Aa, ca, rfl⟩ := Kd.R_slice ha
 obtain ⟨As, cs, rfl⟩ := Kd.R_slice hs
 obtain ⟨Ap, cp, rfl⟩ := Kd.R_slice hp
 obtain ⟨M, hM⟩ : ∃ M, M = b.attrs.map vc := ⟨_, rfl⟩
 rw [← hM] at hm
 obtain ⟨Am, cm, rfl⟩ := Kd.R_slice hm
 have HL := ak hl
 have HM := ak hM
 have bU := ak hf
 have eT := ak ha
 have bl := ak hs
 have eR := ak hp
 have cb := ak hm
 have HG := ak hg
 have an := ak (Below.refl w.heap.size w)
 have HBASE := ak hbase
 have HLB := ak (dc (bk b.addr b.aff b.slots (.slice Af b.free.length cf) (.slice Aa b.attrs.length ca)) (ao _ _ _ _ _ HL.out))
 obtain ⟨lt, hlt⟩ : ∃ lt, lt = l.take 80 := ⟨_, rfl⟩
 have hut : ∀ x ∈ lt, 0 ≤ x ∧ x < 4294967296 := fun x hx => hu x (by rw [hlt] at hx; exact List.mem_of_mem_take hx)
 have hll : lt.length = min 80 l.length := by rw [hlt, List.length_take]
 have HCL := ak hcl
 have HLL := ak hll
 have HC := ak hC
 have HCT := ak (fun W (I : Below w.heap.size w W) => (show Kd.C (Kd.int .u32) W Al lt.length lt by
  rcases Nat.lt_or_ge 80 l.length with h | h
  ·have h_ := Kd.C_take (m := 80) (Kd.C_below hC I) (by omega)
   rw [← hlt] at h_
   exact h_
  ·have h_ := Kd.C_below hC I
   have e : lt = l := by rw [hlt, List.take_of_length_le h]
   rw [e]
   exact h_))
 have hbl := fun v w h => FZ b hg.ok (by have := hg.sum; omega) (by have := hg.na; omega) aff v w h
 rw [hg.right, how, Bool.true_and] at hbl
 rw [if_pos rfl] at hbl
 have HOW := ak (fun w => vT aff hza w)
 rw [how] at HOW
 have hrg := hg.own aff how
 obtain ⟨nb, hnb⟩ : ∃ nb, nb = Hb b aff := ⟨_, rfl⟩
 have hq : nb.addr = b.addr ∧ nb.aff = aff ∧ nb.slots = b.slots ∧ nb.free = b.free ∧ nb.attrs = b.attrs := by rw [hnb]; exact ⟨rfl, rfl, rfl, rfl, rfl⟩
 rw [← hnb] at hbl hrg
 have HRG := ak hrg
 have HQ := ak hq
 have HNL := ak hrg.l64
 have HLN := fun A8 c8 A9 c9 => dc (bk nb.addr nb.aff nb.slots (.slice A8 nb.free.length c8) (.slice A9 nb.attrs.length c9)) (ao _ _ _ _ _ HNL.out)
 have HCP := ak (fun w h => C5 b (by omega) (by have := hg.sum; omega) M (by rw [hM, List.length_map]; have := hg.na; omega) As cs Ap cp Am cm w h)
 have HBL := ak hbl
 clear how hrg hnb hq hbl
 clear hl hM hf ha hs hp hm hbase hC hu hut hll hcl hlt hg
 go_enter Try.func47, Try.ntmps47
 go_upto_if 37 with (first
  | (refine aV rfl 57 (.tmp 0) rfl _ rfl ?_; intro gX W1 J aa I; have cw := ge an J; have aA := ak (an.out.trans (I.mono an.out.size)); have bJ := mv I bU; have ea := mv I eT; have bC := mv I bl; have ee := mv I eR; have b7 := mv I cb; have au := ak (aa); clear J aa I an bU eT bl eR cb)
  | (refine aV rfl 62 (.tmp 1) rfl _ rfl ?_; intro gY W2 J aa I; have jT := ge aA J; have gC := ne au J; have aK := mv I aA; have ch := mv I bJ; have er := mv I ea; have b4 := mv I bC; have ej := mv I ee; have dm := mv I b7; have aI := mv I au; have dk := ak (aa); clear J aa I aA bJ ea bC ee b7 au)
  | (refine aV rfl 79 (.tmp 2) rfl _ rfl ?_; intro gT W3 J aa I; have ld := ge aK J; have iL := ne aI J; have jf := ne dk J; have aT := mv I aK; have cW := mv I ch; have eG := mv I er; have cH := mv I b4; have eN := mv I ej; have dT := mv I dm; have aQ := mv I aI; have dj := mv I dk; have ey := ak (aa); clear J aa I aK ch er b4 ej dm aI dk)
  | (refine aH (some 6) rfl rfl 57 rfl bu b6 ?_; intro gZ W4 J aa I; have ct := ge aT J; have aU := ne aQ J; have gS := ne dj J; have ky := ne ey J; have bq := mv I aT; have cU := mv I cW; have eo := mv I eG; have dC := mv I cH; have fg := mv I eN; have dZ := mv I dT; have bg := mv I aQ; have di := mv I dj; have eF := mv I ey; have bB := ak (aa); clear J aa I aT cW eG cH eN dT aQ dj ey)
  | (refine aH (some 7) rfl rfl 62 rfl dW (fun _ => by kernel_rfl) ?_; intro gU W5 J aa I; have fR := ge bq J; have ig := ne bg J; have dO := ne di J; have jI := ne eF J; have iA := ne bB J; have bE := mv I bq; have cQ := mv I cU; have dJ := mv I eo; have dG := mv I dC; have eV := mv I fg; have dw := mv I dZ; have bz := mv I bg; have dY := mv I di; have bQ := mv I eF; have bY := mv I bB; have ff := ak (aa); have kt := bQ.out.cell 0 _ rfl; have iK := bQ.out.cell 1 _ rfl; have ks := bQ.out.cell 2 _ rfl; have kr := bQ.out.cell 3 _ rfl; have kp := bQ.out.cell 4 _ rfl; have ix := bQ.out.cell 5 _ rfl; clear J aa I bq cU eo dC fg dZ bg di eF bB))
 go_cut [9] from 37 to 39 (fun s9 wx => s9 = .slice Al lt.length cl ∧ W5 = wx)
 case first =>
  rcases Nat.lt_or_ge 80 l.length with mA | mA
  ·have mz : decide ((80 : Int) < (l.length : Int)) = true := by simp; omega
   have wI : (((0 : Int) ≤ 80 ∧ (80 : Int) ≤ (cl : Int)) = True) := eq_true ⟨by omega, by have := HCL.out; omega⟩
   have wH : (((80 : Int) ≤ (cl : Int)) = True) := eq_true (by have := HCL.out; omega)
   go_wp2_with fail
   go_meet
   exact ⟨by rw [HLL.out, Nat.min_eq_left (by omega)], rfl⟩
  ·have mz : decide ((80 : Int) < (l.length : Int)) = false := by simp; omega
   go_wp2_with fail
   go_meet
   exact ⟨by rw [HLL.out, Nat.min_eq_right (by omega)], rfl⟩
 case rest =>
 obtain ⟨ic, ib⟩ := hcut
 subst ic
 subst ib
 go_wp2_with (first
  | ((with_reducible refine aJ (N := 208) rfl ?_); refine aN rfl 57 (.tmp 3) rfl gX rfl _ _ _ bz.out Try.underlying57 rfl 68 (by kernel_rfl) (ao _ _ _ _ _ HL.out) ?_)
  | (go_at_call 55; refine (HBL.out _ _ ⟨_, _, _, _, rfl, ⟨HL.out, (rr cQ).1, (rr cQ).2, (rr dJ).1, (rr dJ).2⟩⟩).mono ?_; rintro e W6 ⟨v_, rfl, bc, I⟩; have HSZ := ak (lb HBASE bE); obtain ⟨iZ, p6, p7, rfl, dM, ew⟩ := bc; obtain ⟨A8, c8, rfl⟩ := Kd.R_slice dM; obtain ⟨A9, c9, rfl⟩ := Kd.R_slice ew; have bZ := mv I bE; have dD := mv I cQ; have ef := mv I dJ; have dN := mv I dG; have eU := mv I eV; have ez := mv I dw; have bH := mv I bz; have du := mv I dY; have fJ := mv I bQ; have cn := mv I bY; have dI := mv I ff; have nI := ak (Kd.R_lower dM HSZ.out); have nF := ak (Kd.R_lower ew HSZ.out); clear HSZ iZ dM ew I bE cQ dJ dG eV dw bz dY bQ bY ff kt iK ks kr kp ix)
  | (refine aH (some 30) rfl rfl 57 rfl bu b6 ?_; intro gQ W7 J aa I; have dr := ge bZ J; have bI := ne bH J; have wh := ne du J; have wj := ne fJ J; have bs := ne cn J; have wi := ne dI J; have eH := mv I bZ; have fA := mv I dD; have ji := mv I ef; have gq := mv I dN; have l4 := mv I eU; have ju := mv I ez; have dP := mv I bH; have iY := mv I du; have nB := mv I fJ; have ep := mv I cn; have nA := mv I dI; have nH := mv I nI; have nE := mv I nF; have en := ak (aa); clear J aa I bZ dD ef dN eU ez bH du fJ cn dI nI nF)
  | (refine a7 rfl 57 (.tmp 30) (.tmp 212) rfl gQ (bk nb.addr nb.aff nb.slots (.slice A8 nb.free.length c8) (.slice A9 nb.attrs.length c9)) rfl rfl 57 _ en.out 68 (by kernel_rfl) (ao _ _ _ _ _ HNL.out) rfl (cA _ _ _ _ _ rfl rfl) ?_; intro W8 aa J; have gJ := gb eH dr J; have jw := gr fA en J; have jv := gr ji en J; have kI := gr gq en J; have lJ := gr l4 en J; have lK := gr ju en J; have gH := gn dP bI J; have kG := gx iY en J; have mi := gx nB en J; have gG := gn ep bs J; have nz := gx nA en J; have nG := gr nH en J; have nD := gr nE en J; have pQ := ak (aa); have ix := mi.out.cell 5 _ rfl; clear aa J eH fA ji gq l4 ju dP iY nB ep nA nH nE en)
  | (go_at_call 42; refine (HOW.out _).mono ?_; rintro e W9 ⟨rfl, I⟩; have lp := mv I gJ; have oT := mv I jw; have oS := mv I jv; have mj := mv I kI; have oP := mv I lJ; have oQ := mv I lK; have ln := mv I gH; have mh := mv I kG; have oc := mv I mi; have kW := mv I gG; have oN := mv I nz; have pX := mv I nG; have pV := mv I nD; have oO := mv I pQ; have ix := oc.out.cell 5 _ rfl; clear I gJ jw jv kI lJ lK gH kG mi gG nz nG nD pQ ix)
  | ((with_reducible refine aJ (N := 226) rfl ?_); refine aN rfl 62 (.tmp 4) rfl gY rfl _ _ _ mh.out Try.underlying62 rfl 5 (by kernel_rfl) rfl ?_)
  | (go_at_call 85; refine (HCP.out _ (jL.of HM.out mj.out oP.out oQ.out)).mono ?_; rintro e TU ⟨wZ, sZ, ta, rfl, ie, fP, fi, I⟩; have HSZ := ak (lb HBASE lp); obtain ⟨A1, c1, rfl⟩ := Kd.R_slice ie; obtain ⟨A2, c2, rfl⟩ := Kd.R_slice fP; obtain ⟨A3, c3, rfl⟩ := Kd.R_slice fi; have nY := mv I lp; have ue := mv I oT; have ub := mv I oS; have pP := mv I mj; have tQ := mv I oP; have tV := mv I oQ; have nU := mv I ln; have qy := mv I mh; have rG := mv I oc; have oE := mv I kW; have rE := mv I oN; have uk := mv I pX; have uh := mv I pV; have rI := mv I oO; have tY := ak (Kd.R_mono (ok' := fun _ => True) (Kd.R_lower ie HSZ.out) (fun _ _ => trivial)); have AI := ak (Kd.R_mono (ok' := fun _ => True) (Kd.R_lower fP HSZ.out) (fun _ _ => trivial)); have Bi := ak (Kd.R_mono (ok' := fun _ => True) (Kd.R_lower fi HSZ.out) (fun _ _ => trivial)); clear HSZ ie fP fi I lp oT oS mj oP oQ ln mh oc kW oN pX pV oO ix)
  | (refine aH (some 32) rfl rfl 62 rfl dW (fun _ => by kernel_rfl) ?_; intro gV LP J aa I; have dQ := ge nY J; have fL := ne nU J; have fp := ne qy J; have sR := ne rG J; have kU := ne oE J; have eO := ne rE J; have wk := ne rI J; have ur := mv I nY; have Bd := mv I ue; have AV := mv I ub; have tL := mv I pP; have Aw := mv I tQ; have AB := mv I tV; have pN := mv I nU; have zY := mv I qy; have z9 := mv I rG; have tz := mv I oE; have z7 := mv I rE; have Br := mv I uk; have Bn := mv I uh; have Aj := mv I rI; have rJ := mv I tY; have AH := mv I AI; have Bh := mv I Bi; have kH := ak (aa); clear J aa I nY ue ub pP tQ tV nU qy rG oE rE uk uh rI tY AI Bi)
  | (refine a7 rfl 62 (.tmp 32) (.tmp 227) rfl gV (dH b.addr b.aff (.slice A1 b.slots.length c1) (.slice A2 b.free.length c2) (.slice A3 M.length c3)) rfl rfl 62 _ kH.out 5 (by kernel_rfl) rfl rfl (et _ _ rfl rfl rfl) ?_; intro LO aa J; have uq := gb ur dQ J; have Bc := gr Bd kH J; have AU := gr AV kH J; have rH := gr tL kH J; have Av := gr Aw kH J; have AA := gr AB kH J; have pM := gx pN kH J; have zX := gn zY fp J; have yj := gx z9 kH J; have rD := gx tz kH J; have z6 := gn z7 eO J; have Bq := gr Br kH J; have Bm := gr Bn kH J; have Ai := gx Aj kH J; have qB := gr rJ kH J; have AG := gr AH kH J; have Bg := gr Bh kH J; have jP := ak (aa); have ix := yj.out.cell 5 _ rfl; have mO := jP.out.cell 1 _ rfl; have Uo := jP.out.frozen 1; clear aa J ur Bd AV tL Aw AB pN zY z9 tz z7 Br Bn Aj rJ AH Bh kH))
 generalize cr : LO.setCell ⟨gV, 1, none⟩ (.string aff) = LN; have J : LO.grownBy LN (some gV) := (by rw [← cr]; exact bP _ _ _ _); have Bw := gb uq dQ J; have Bb := gr Bc jP J; have AT := gr AU jP J; have Ae := gr rH jP J; have Mh := gr Av jP J; have Mz := gr AA jP J; have qz := gx pM jP J; have LW := gn zX fp J; have Ma := gx yj jP J; have zU := gx rD jP J; have L4 := gn z6 eO J; have NF := gr Bq jP J; have NB := gr Bm jP J; have Me := gx Ai jP J; have AP := gr qB jP J; have MI := gr AG jP J; have Nx := gr Bg jP J; have H5 := ak (jP.out.set 1 (.string aff)); rw [cr] at H5; clear cr J uq Bc AU rH Av AA pM zX yj rD z6 Bq Bm Ai qB AG Bg jP ix mO Uo
 have aq : Below LN.heap.size LN LN.drew := bL (Below.refl _ _)
 have Bv := mv aq Bw; have A6 := mv aq Bb; have AS := mv aq AT; have Ad := mv aq Ae; have Mg := mv aq Mh; have My := mv aq Mz; have tG := mv aq qz; have LV := mv aq LW; have L9 := mv aq Ma; have tx := mv aq zU; have L3 := mv aq L4; have ND := mv aq NF; have NA := mv aq NB; have Md := mv aq Me; have AN := mv aq AP; have MH := mv aq MI; have Nw := mv aq Nx; have L0 := mv aq H5
 clear aq Bw Bb AT Ae Mh Mz qz LW Ma zU L4 NF NB Me AP MI Nx H5
 have hB := Bv
 have hF := A6
 have hG := AS
 have hS := Ad
 have hP := Mg
 have hM := My
 have hX := tG
 have hY := LV
 have hT := L9
 have hZ := tx
 have hU := L3
 have hC := ND
 have hD := NA
 have hQ := Md
 have hI := AN
 have hJ := MH
 have hE := Nw
 have hV := L0
 clear Bv A6 AS Ad Mg My tG LV L9 tx L3 ND NA Md AN MH Nw L0
 refine dR (n := 7) (S := fun w' => aX w' gQ (bk nb.addr nb.aff nb.slots (.slice A8 nb.free.length c8) (.slice A9 nb.attrs.length c9)) 57 ∧ aX w' gV (dH b.addr aff (.slice A1 b.slots.length c1) (.slice A2 b.free.length c2) (.slice A3 M.length c3)) 62) (ds := []) #[false, false, false, false, false, false, false] (by kernel_rfl) rfl rfl ⟨hQ.out, hV.out⟩ (fun hHeld => ?_); refine b5 te.tab36 te.bits36 (fun ag bM => ?_)
 refine tk 0 ag.out bM.out hHeld ?_ (hv := by exact fun _ bj => aY 57 (.tmp 30) rfl gQ rfl _ _ _ bj.1 Try.underlying57 rfl (HLN _ _ _ _))
 refine tk 1 ag.out bM.out hHeld ?_ (hv := by exact fun _ bj => aY 62 (.tmp 32) rfl gV rfl _ _ _ bj.2 Try.underlying62 rfl (by kernel_rfl))
 refine pu 2 ag.out ?_
 refine pu 3 ag.out ?_
 refine ow 4 ag.out (fun K hK => ?_)
 refine bS (by rfl) rfl 57 (.tmp 6) (.tmp 231) rfl gZ (bk nb.addr nb.aff nb.slots (.slice A8 nb.free.length c8) (.slice A9 nb.attrs.length c9)) rfl rfl 57 _ hZ.out 68 (by kernel_rfl) (ao _ _ _ _ _ HNL.out) rfl (cA _ _ _ _ _ rfl rfl) ?_
 intro V4 aa J; replace hB := gb hB ct J; replace hF := gr hF hZ J; replace hG := gr hG hZ J; replace hS := gr hS hZ J; replace hP := gr hP hZ J; replace hM := gr hM hZ J; replace hX := gn hX aU J; replace hY := gx hY hZ J; replace hT := gx hT hZ J; replace hU := gx hU hZ J; replace hC := gr hC hZ J; replace hD := gr hD hZ J; replace hQ := gm hQ bs J; replace hI := gr hI hZ J; replace hJ := gr hJ hZ J; replace hE := gr hE hZ J; replace hV := gx hV hZ J; replace hZ := ak (aa); clear aa J
 refine hK.out _ _ ⟨hQ.out, hV.out⟩ (fun hHeld => ?_)
 clear hK K
 refine ow 5 ag.out (fun K hK => ?_)
 refine bS (by rfl) rfl 62 (.tmp 7) (.tmp 232) rfl gU (dH b.addr aff (.slice A1 b.slots.length c1) (.slice A2 b.free.length c2) (.slice A3 M.length c3)) rfl rfl 62 _ hU.out 5 (by kernel_rfl) rfl rfl (et _ _ rfl rfl rfl) ?_
 intro V5 aa J; replace hB := gb hB fR J; replace hF := gr hF hU J; replace hG := gr hG hU J; replace hS := gr hS hU J; replace hP := gr hP hU J; replace hM := gr hM hU J; replace hX := gx hX hU J; replace hY := gn hY dO J; replace hT := gx hT hU J; replace hZ := gx hZ hU J; replace hC := gr hC hU J; replace hD := gr hD hU J; replace hQ := gx hQ hU J; replace hI := gr hI hU J; replace hJ := gr hJ hU J; replace hE := gr hE hU J; replace hV := gm hV eO J; replace hU := ak (aa); clear aa J
 refine hK.out _ _ ⟨hQ.out, hV.out⟩ (fun hHeld => ?_)
 clear hK K
 refine pu 6 ag.out ?_
 refine dn ag.out ?_
 clear hHeld
 go_wp2_with fail
 refine bodyPost_ret (fD rfl _ _ _ gZ gU 57 62 _ _ _ _ rfl hZ.out rfl Try.underlying57 (HLN _ _ _ _) rfl hU.out rfl Try.underlying62 (by kernel_rfl)) rfl ⟨_, _, nb, rfl, HRG.out, ⟨HNL.out, _, _, rfl, hC.out, hD.out⟩, ?_, hB.out⟩
 obtain ⟨e1, e2, e3, e4, e5⟩ := HQ.out
 exact ⟨_, _, _, by rw [e1, e2], by rw [e3]; exact hI.out, by rw [e4]; exact hJ.out, by rw [e5, ← HM.out]; exact hE.out⟩
set_option maxHeartbeats 16000000 in
set_option maxRecDepth 100000 in
theorem Ph (b : Bk) (hg : RG b) (n : Int) (hn : n < 9223372036854775808) (a : lN) (fE : a.f0.size ≤ 9223372036854775807) (gh : a.f1.size ≤ 9223372036854775807) (l : List Int) (hu : ∀ x ∈ l, 0 ≤ x ∧ x < 4294967296) (hlm : l.length ≤ 9223372036854775807) (Al : Option Addr) (cl : Nat) (hcl : l.length ≤ cl) (aff : ByteArray) (hza : aff.size ≤ 9223372036854775807) (how : gg aff = false) (v v2 : Value) (w : World) (base : Nat) (hbase : base ≤ w.heap.size) (hO : eP w base v b) (hR : fw w base v2 b) (hC : Kd.C (Kd.int .u32) w Al l.length l) :
  Calls Try.prog 47 #[v, v2, .agg #[.int .i64 7, .int .i64 n, .string a.f0, .string a.f1, .slice Al l.length cl, .string aff]] w fun e w' => ∃ v1 v2 b', e = .returned (.tuple #[v1, v2, .bool true]) ∧ RG b' ∧ eP w' base v1 b' ∧ fw w' base v2 b' ∧ Below w.heap.size w w' := by
 obtain ⟨hl, vf, va, rfl, hf, ha⟩ := hO
 obtain ⟨vs, vp, vm, rfl, hs, hp, hm⟩ := hR
 obtain ⟨Af, cf, rfl⟩ := Kd.R_slice hf
 obtain ⟨Aa, ca, rfl⟩ := Kd.R_slice ha
 obtain ⟨As, cs, rfl⟩ := Kd.R_slice hs
 obtain ⟨Ap, cp, rfl⟩ := Kd.R_slice hp
 obtain ⟨M, hM⟩ : ∃ M, M = b.attrs.map vc := ⟨_, rfl⟩
 rw [← hM] at hm
 obtain ⟨Am, cm, rfl⟩ := Kd.R_slice hm
 have HL := ak hl
 have HM := ak hM
 have bU := ak hf
 have eT := ak ha
 have bl := ak hs
 have eR := ak hp
 have cb := ak hm
 have HG := ak hg
 have an := ak (Below.refl w.heap.size w)
 have HBASE := ak hbase
 have HLB := ak (dc (bk b.addr b.aff b.slots (.slice Af b.free.length cf) (.slice Aa b.attrs.length ca)) (ao _ _ _ _ _ HL.out))
 obtain ⟨lt, hlt⟩ : ∃ lt, lt = l.take 80 := ⟨_, rfl⟩
 have hut : ∀ x ∈ lt, 0 ≤ x ∧ x < 4294967296 := fun x hx => hu x (by rw [hlt] at hx; exact List.mem_of_mem_take hx)
 have hll : lt.length = min 80 l.length := by rw [hlt, List.length_take]
 have HCL := ak hcl
 have HLL := ak hll
 have HC := ak hC
 have HCT := ak (fun W (I : Below w.heap.size w W) => (show Kd.C (Kd.int .u32) W Al lt.length lt by
  rcases Nat.lt_or_ge 80 l.length with h | h
  ·have h_ := Kd.C_take (m := 80) (Kd.C_below hC I) (by omega)
   rw [← hlt] at h_
   exact h_
  ·have h_ := Kd.C_below hC I
   have e : lt = l := by rw [hlt, List.take_of_length_le h]
   rw [e]
   exact h_))
 have hbl := fun v w h => FZ b hg.ok (by have := hg.sum; omega) (by have := hg.na; omega) aff v w h
 rw [hg.right, how, Bool.true_and] at hbl
 rw [if_neg (by decide), if_neg (by decide)] at hbl
 have HOW := ak (fun w => vT aff hza w)
 rw [how] at HOW
 obtain ⟨nb, hnb⟩ : ∃ nb, nb = kC := ⟨_, rfl⟩
 have hnl : kC.slots.length = 64 := rfl
 rw [← hnb] at hbl hnl
 have HNB := ak hnb
 have HNL := ak hnl
 have HLN := fun A8 c8 A9 c9 => dc (bk nb.addr nb.aff nb.slots (.slice A8 nb.free.length c8) (.slice A9 nb.attrs.length c9)) (ao _ _ _ _ _ HNL.out)
 have HZR := ak (fun v w h => oH v w (by rw [← HNB.out]; exact h))
 have HBL := ak hbl
 clear how hnb hnl hbl
 clear hl hM hf ha hs hp hm hbase hC hu hut hll hcl hlt hg
 go_enter Try.func47, Try.ntmps47
 go_upto_if 37 with (first
  | (refine aV rfl 57 (.tmp 0) rfl _ rfl ?_; intro gX W1 J aa I; have cw := ge an J; have aA := ak (an.out.trans (I.mono an.out.size)); have bJ := mv I bU; have ea := mv I eT; have bC := mv I bl; have ee := mv I eR; have b7 := mv I cb; have au := ak (aa); clear J aa I an bU eT bl eR cb)
  | (refine aV rfl 62 (.tmp 1) rfl _ rfl ?_; intro gY W2 J aa I; have jT := ge aA J; have gC := ne au J; have aK := mv I aA; have ch := mv I bJ; have er := mv I ea; have b4 := mv I bC; have ej := mv I ee; have dm := mv I b7; have aI := mv I au; have dk := ak (aa); clear J aa I aA bJ ea bC ee b7 au)
  | (refine aV rfl 79 (.tmp 2) rfl _ rfl ?_; intro gT W3 J aa I; have ld := ge aK J; have iL := ne aI J; have jf := ne dk J; have aT := mv I aK; have cW := mv I ch; have eG := mv I er; have cH := mv I b4; have eN := mv I ej; have dT := mv I dm; have aQ := mv I aI; have dj := mv I dk; have ey := ak (aa); clear J aa I aK ch er b4 ej dm aI dk)
  | (refine aH (some 6) rfl rfl 57 rfl bu b6 ?_; intro gZ W4 J aa I; have ct := ge aT J; have aU := ne aQ J; have gS := ne dj J; have ky := ne ey J; have bq := mv I aT; have cU := mv I cW; have eo := mv I eG; have dC := mv I cH; have fg := mv I eN; have dZ := mv I dT; have bg := mv I aQ; have di := mv I dj; have eF := mv I ey; have bB := ak (aa); clear J aa I aT cW eG cH eN dT aQ dj ey)
  | (refine aH (some 7) rfl rfl 62 rfl dW (fun _ => by kernel_rfl) ?_; intro gU W5 J aa I; have fR := ge bq J; have ig := ne bg J; have dO := ne di J; have jI := ne eF J; have iA := ne bB J; have bE := mv I bq; have cQ := mv I cU; have dJ := mv I eo; have dG := mv I dC; have eV := mv I fg; have dw := mv I dZ; have bz := mv I bg; have dY := mv I di; have bQ := mv I eF; have bY := mv I bB; have ff := ak (aa); have kt := bQ.out.cell 0 _ rfl; have iK := bQ.out.cell 1 _ rfl; have ks := bQ.out.cell 2 _ rfl; have kr := bQ.out.cell 3 _ rfl; have kp := bQ.out.cell 4 _ rfl; have ix := bQ.out.cell 5 _ rfl; clear J aa I bq cU eo dC fg dZ bg di eF bB))
 go_cut [9] from 37 to 39 (fun s9 wx => s9 = .slice Al lt.length cl ∧ W5 = wx)
 case first =>
  rcases Nat.lt_or_ge 80 l.length with mA | mA
  ·have mz : decide ((80 : Int) < (l.length : Int)) = true := by simp; omega
   have wI : (((0 : Int) ≤ 80 ∧ (80 : Int) ≤ (cl : Int)) = True) := eq_true ⟨by omega, by have := HCL.out; omega⟩
   have wH : (((80 : Int) ≤ (cl : Int)) = True) := eq_true (by have := HCL.out; omega)
   go_wp2_with fail
   go_meet
   exact ⟨by rw [HLL.out, Nat.min_eq_left (by omega)], rfl⟩
  ·have mz : decide ((80 : Int) < (l.length : Int)) = false := by simp; omega
   go_wp2_with fail
   go_meet
   exact ⟨by rw [HLL.out, Nat.min_eq_right (by omega)], rfl⟩
 case rest =>
 obtain ⟨ic, ib⟩ := hcut
 subst ic
 subst ib
 go_wp2_with (first
  | ((with_reducible refine aJ (N := 208) rfl ?_); refine aN rfl 57 (.tmp 3) rfl gX rfl _ _ _ bz.out Try.underlying57 rfl 68 (by kernel_rfl) (ao _ _ _ _ _ HL.out) ?_)
  | (go_at_call 55; refine (HBL.out _ _ ⟨_, _, _, _, rfl, ⟨HL.out, (rr cQ).1, (rr cQ).2, (rr dJ).1, (rr dJ).2⟩⟩).mono ?_; rintro e W6 ⟨v_, rfl, bc, I⟩; have HSZ := ak (lb HBASE bE); obtain ⟨iZ, p6, p7, rfl, dM, ew⟩ := bc; obtain ⟨A8, c8, rfl⟩ := Kd.R_slice dM; obtain ⟨A9, c9, rfl⟩ := Kd.R_slice ew; have bZ := mv I bE; have dD := mv I cQ; have ef := mv I dJ; have dN := mv I dG; have eU := mv I eV; have ez := mv I dw; have bH := mv I bz; have du := mv I dY; have fJ := mv I bQ; have cn := mv I bY; have dI := mv I ff; have nI := ak (Kd.R_lower dM HSZ.out); have nF := ak (Kd.R_lower ew HSZ.out); clear HSZ iZ dM ew I bE cQ dJ dG eV dw bz dY bQ bY ff kt iK ks kr kp ix)
  | (refine aH (some 30) rfl rfl 57 rfl bu b6 ?_; intro gQ W7 J aa I; have dr := ge bZ J; have bI := ne bH J; have wh := ne du J; have wj := ne fJ J; have bs := ne cn J; have wi := ne dI J; have eH := mv I bZ; have fA := mv I dD; have ji := mv I ef; have gq := mv I dN; have l4 := mv I eU; have ju := mv I ez; have dP := mv I bH; have iY := mv I du; have nB := mv I fJ; have ep := mv I cn; have nA := mv I dI; have nH := mv I nI; have nE := mv I nF; have en := ak (aa); clear J aa I bZ dD ef dN eU ez bH du fJ cn dI nI nF)
  | (refine a7 rfl 57 (.tmp 30) (.tmp 212) rfl gQ (bk nb.addr nb.aff nb.slots (.slice A8 nb.free.length c8) (.slice A9 nb.attrs.length c9)) rfl rfl 57 _ en.out 68 (by kernel_rfl) (ao _ _ _ _ _ HNL.out) rfl (cA _ _ _ _ _ rfl rfl) ?_; intro W8 aa J; have gJ := gb eH dr J; have jw := gr fA en J; have jv := gr ji en J; have kI := gr gq en J; have lJ := gr l4 en J; have lK := gr ju en J; have gH := gn dP bI J; have kG := gx iY en J; have mi := gx nB en J; have gG := gn ep bs J; have nz := gx nA en J; have nG := gr nH en J; have nD := gr nE en J; have pQ := ak (aa); have ix := mi.out.cell 5 _ rfl; clear aa J eH fA ji gq l4 ju dP iY nB ep nA nH nE en)
  | (go_at_call 42; refine (HOW.out _).mono ?_; rintro e W9 ⟨rfl, I⟩; have lp := mv I gJ; have oT := mv I jw; have oS := mv I jv; have mj := mv I kI; have oP := mv I lJ; have oQ := mv I lK; have ln := mv I gH; have mh := mv I kG; have oc := mv I mi; have kW := mv I gG; have oN := mv I nz; have pX := mv I nG; have pV := mv I nD; have oO := mv I pQ; clear I gJ jw jv kI lJ lK gH kG mi gG nz nG nD pQ ix))
 have aq : Below W9.heap.size W9 W9.drew := bL (Below.refl _ _)
 have nY := mv aq lp; have ue := mv aq oT; have ub := mv aq oS; have pP := mv aq mj; have tQ := mv aq oP; have tV := mv aq oQ; have nU := mv aq ln; have qy := mv aq mh; have rG := mv aq oc; have oE := mv aq kW; have rE := mv aq oN; have uk := mv aq pX; have uh := mv aq pV; have rI := mv aq oO
 clear aq lp oT oS mj oP oQ ln mh oc kW oN pX pV oO
 have hB := nY
 have hF := ue
 have hG := ub
 have hS := pP
 have hP := tQ
 have hM := tV
 have hX := nU
 have hY := qy
 have hT := rG
 have hZ := oE
 have hU := rE
 have hC := uk
 have hD := uh
 have hQ := rI
 clear nY ue ub pP tQ tV nU qy rG oE rE uk uh rI
 refine dR (n := 11) (S := fun w' => aX w' gX (bk b.addr b.aff b.slots (.slice Af b.free.length cf) (.slice Aa b.attrs.length ca)) 57 ∧ aX w' gY (dH b.addr b.aff (.slice As b.slots.length cs) (.slice Ap b.free.length cp) (.slice Am M.length cm)) 62 ∧ aX w' gQ (bk nb.addr nb.aff nb.slots (.slice A8 nb.free.length c8) (.slice A9 nb.attrs.length c9)) 57) (ds := []) #[false, false, false, false, false, false, false, false, false, false, false] (by kernel_rfl) rfl rfl ⟨hX.out, hY.out, hQ.out⟩ (fun hHeld => ?_); refine b5 tf.tab33 tf.bits33 (fun ag bM => ?_)
 refine tk 0 ag.out bM.out hHeld ?_ (hv := by exact fun _ bj => aY 57 (.tmp 3) rfl gX rfl _ _ _ bj.1 Try.underlying57 rfl HLB.out)
 refine tk 1 ag.out bM.out hHeld ?_ (hv := by exact fun _ bj => aY 62 (.tmp 4) rfl gY rfl _ _ _ bj.2.1 Try.underlying62 rfl (by kernel_rfl))
 refine pu 2 ag.out ?_
 refine pu 3 ag.out ?_
 refine pu 4 ag.out ?_
 refine tk 5 ag.out bM.out hHeld ?_ (hv := by exact fun _ bj => aY 57 (.tmp 30) rfl gQ rfl _ _ _ bj.2.2 Try.underlying57 rfl (HLN _ _ _ _))
 refine on 6 ag.out (fun K hK => ?_)
 refine gs Try.func43 #[.agg (bk nb.addr nb.aff nb.slots (.slice A8 nb.free.length c8) (.slice A9 nb.attrs.length c9)).toArray] (HZR.out _ _ ⟨_, _, _, _, rfl, ⟨HNL.out, (rr hC).1, (rr hC).2, (rr hD).1, (rr hD).2⟩⟩) ?_
 rintro e V6 ⟨rfl, I⟩
 refine ⟨_, rfl, ?_⟩
 replace hB := mv I hB; replace hF := mv I hF; replace hG := mv I hG; replace hS := mv I hS; replace hP := mv I hP; replace hM := mv I hM; replace hX := mv I hX; replace hY := mv I hY; replace hT := mv I hT; replace hZ := mv I hZ; replace hU := mv I hU; replace hC := mv I hC; replace hD := mv I hD; replace hQ := mv I hQ
 refine kn hK ⟨hX.out, hY.out, hQ.out⟩ (fun hHeld => ?_)
 clear hK K
 refine pu 7 ag.out ?_
 refine ow 8 ag.out (fun K hK => ?_)
 refine bS (by rfl) rfl 57 (.tmp 6) (.tmp 218) rfl gZ (bk b.addr b.aff b.slots (.slice Af b.free.length cf) (.slice Aa b.attrs.length ca)) rfl rfl 57 _ hZ.out 68 (by kernel_rfl) (ao _ _ _ _ _ HL.out) rfl (cA _ _ _ _ _ rfl rfl) ?_
 intro V8 aa J; replace hB := gb hB ct J; replace hF := gr hF hZ J; replace hG := gr hG hZ J; replace hS := gr hS hZ J; replace hP := gr hP hZ J; replace hM := gr hM hZ J; replace hX := gn hX aU J; replace hY := gx hY hZ J; replace hT := gx hT hZ J; replace hU := gx hU hZ J; replace hC := gr hC hZ J; replace hD := gr hD hZ J; replace hQ := gm hQ bs J; replace hZ := ak (aa); clear aa J
 refine hK.out _ _ ⟨hX.out, hY.out, hQ.out⟩ (fun hHeld => ?_)
 clear hK K
 refine ow 9 ag.out (fun K hK => ?_)
 refine bS (by rfl) rfl 62 (.tmp 7) (.tmp 219) rfl gU (dH b.addr b.aff (.slice As b.slots.length cs) (.slice Ap b.free.length cp) (.slice Am M.length cm)) rfl rfl 62 _ hU.out 5 (by kernel_rfl) rfl rfl (et _ _ rfl rfl rfl) ?_
 intro V9 aa J; replace hB := gb hB fR J; replace hF := gr hF hU J; replace hG := gr hG hU J; replace hS := gr hS hU J; replace hP := gr hP hU J; replace hM := gr hM hU J; replace hX := gx hX hU J; replace hY := gn hY dO J; replace hT := gx hT hU J; replace hZ := gx hZ hU J; replace hC := gr hC hU J; replace hD := gr hD hU J; replace hQ := gx hQ hU J; replace hU := ak (aa); clear aa J
 refine hK.out _ _ ⟨hX.out, hY.out, hQ.out⟩ (fun hHeld => ?_)
 clear hK K
 refine pu 10 ag.out ?_
 refine dn ag.out ?_
 clear hHeld
 go_wp2_with fail
 refine bodyPost_ret (fD rfl _ _ _ gZ gU 57 62 _ _ _ _ rfl hZ.out rfl Try.underlying57 (by first | exact HLB.out | exact HLN _ _ _ _) rfl hU.out rfl Try.underlying62 (by kernel_rfl)) rfl ⟨_, _, b, rfl, ?_, ?_, ?_, hB.out⟩
 ·exact HG.out
 ·exact ⟨HL.out, _, _, rfl, hF.out, hG.out⟩
 ·exact ⟨_, _, _, rfl, hS.out, hP.out, by rw [← HM.out]; exact hM.out⟩
end Go.Proofs.Ytemhalnhbgkbcaa.V
end

section
namespace Go.Proofs.Ytemhalnhbgkbcaa.V
set_option maxHeartbeats 16000000 in
set_option maxRecDepth 100000 in
theorem Q5 (b : Bk) (hg : RG b) (kd : Int) (hkd : kd = 2 ∨ kd = 3) (n : Int) (hn : n < 9223372036854775808) (a : lN) (fE : a.f0.size ≤ 9223372036854775807) (gh : a.f1.size ≤ 9223372036854775807) (l : List Int) (hu : ∀ x ∈ l, 0 ≤ x ∧ x < 4294967296) (hlm : l.length ≤ 9223372036854775807) (Al : Option Addr) (cl : Nat) (hcl : l.length ≤ cl) (aff : ByteArray) (hza : aff.size ≤ 9223372036854775807) (he : l = []) (v v2 : Value) (w : World) (base : Nat) (hbase : base ≤ w.heap.size) (hO : eP w base v b) (hR : fw w base v2 b) (hC : Kd.C (Kd.int .u32) w Al l.length l) :
  Calls Try.prog 47 #[v, v2, .agg #[.int .i64 kd, .int .i64 n, .string a.f0, .string a.f1, .slice Al l.length cl, .string aff]] w fun e w' => ∃ v1 v2 b', e = .returned (.tuple #[v1, v2, .bool true]) ∧ RG b' ∧ eP w' base v1 b' ∧ fw w' base v2 b' ∧ Below w.heap.size w w' := by
 obtain ⟨hl, vf, va, rfl, hf, ha⟩ := hO
 obtain ⟨vs, vp, vm, rfl, hs, hp, hm⟩ := hR
 obtain ⟨Af, cf, rfl⟩ := Kd.R_slice hf
 obtain ⟨Aa, ca, rfl⟩ := Kd.R_slice ha
 obtain ⟨As, cs, rfl⟩ := Kd.R_slice hs
 obtain ⟨Ap, cp, rfl⟩ := Kd.R_slice hp
 obtain ⟨M, hM⟩ : ∃ M, M = b.attrs.map vc := ⟨_, rfl⟩
 rw [← hM] at hm
 obtain ⟨Am, cm, rfl⟩ := Kd.R_slice hm
 have HL := ak hl
 have HM := ak hM
 have bU := ak hf
 have eT := ak ha
 have bl := ak hs
 have eR := ak hp
 have cb := ak hm
 have HG := ak hg
 have an := ak (Below.refl w.heap.size w)
 have HBASE := ak hbase
 have HLB := ak (dc (bk b.addr b.aff b.slots (.slice Af b.free.length cf) (.slice Aa b.attrs.length ca)) (ao _ _ _ _ _ HL.out))
 obtain ⟨lt, hlt⟩ : ∃ lt, lt = l.take 80 := ⟨_, rfl⟩
 have hut : ∀ x ∈ lt, 0 ≤ x ∧ x < 4294967296 := fun x hx => hu x (by rw [hlt] at hx; exact List.mem_of_mem_take hx)
 have hll : lt.length = min 80 l.length := by rw [hlt, List.length_take]
 have HCL := ak hcl
 have HLL := ak hll
 have HC := ak hC
 have HCT := ak (fun W (I : Below w.heap.size w W) => (show Kd.C (Kd.int .u32) W Al lt.length lt by
  rcases Nat.lt_or_ge 80 l.length with h | h
  ·have h_ := Kd.C_take (m := 80) (Kd.C_below hC I) (by omega)
   rw [← hlt] at h_
   exact h_
  ·have h_ := Kd.C_below hC I
   have e : lt = l := by rw [hlt, List.take_of_length_le h]
   rw [e]
   exact h_))
 have q0 : (kd = 0) = False := eq_false (by omega)
 have r0 : decide (kd = 0) = false := decide_eq_false (by omega)
 have u0 : (kd == 0) = false := beq_eq_false_iff_ne.mpr (by omega)
 have q1 : (kd = 1) = False := eq_false (by omega)
 have r1 : decide (kd = 1) = false := decide_eq_false (by omega)
 have u1 : (kd == 1) = false := beq_eq_false_iff_ne.mpr (by omega)
 have HKD := ak hkd
 have l0 : lt.length = 0 := by rw [hll, he]; rfl
 have y0 : decide (0 < lt.length) = false := by rw [l0]; rfl
 have y1 : decide ((0 : Int) < (lt.length : Int)) = false := by rw [l0]; rfl
 have y2 : (0 < lt.length) = False := eq_false (by rw [l0]; simp)
 clear he hkd l0
 clear hl hM hf ha hs hp hm hbase hC hu hut hll hcl hlt hg
 go_enter Try.func47, Try.ntmps47
 go_upto_if 37 with (first
  | (refine aV rfl 57 (.tmp 0) rfl _ rfl ?_; intro gX W1 J aa I; have cw := ge an J; have aA := ak (an.out.trans (I.mono an.out.size)); have bJ := mv I bU; have ea := mv I eT; have bC := mv I bl; have ee := mv I eR; have b7 := mv I cb; have au := ak (aa); clear J aa I an bU eT bl eR cb)
  | (refine aV rfl 62 (.tmp 1) rfl _ rfl ?_; intro gY W2 J aa I; have jT := ge aA J; have gC := ne au J; have aK := mv I aA; have ch := mv I bJ; have er := mv I ea; have b4 := mv I bC; have ej := mv I ee; have dm := mv I b7; have aI := mv I au; have dk := ak (aa); clear J aa I aA bJ ea bC ee b7 au)
  | (refine aV rfl 79 (.tmp 2) rfl _ rfl ?_; intro gT W3 J aa I; have ld := ge aK J; have iL := ne aI J; have jf := ne dk J; have aT := mv I aK; have cW := mv I ch; have eG := mv I er; have cH := mv I b4; have eN := mv I ej; have dT := mv I dm; have aQ := mv I aI; have dj := mv I dk; have ey := ak (aa); clear J aa I aK ch er b4 ej dm aI dk)
  | (refine aH (some 6) rfl rfl 57 rfl bu b6 ?_; intro gZ W4 J aa I; have ct := ge aT J; have aU := ne aQ J; have gS := ne dj J; have ky := ne ey J; have bq := mv I aT; have cU := mv I cW; have eo := mv I eG; have dC := mv I cH; have fg := mv I eN; have dZ := mv I dT; have bg := mv I aQ; have di := mv I dj; have eF := mv I ey; have bB := ak (aa); clear J aa I aT cW eG cH eN dT aQ dj ey)
  | (refine aH (some 7) rfl rfl 62 rfl dW (fun _ => by kernel_rfl) ?_; intro gU W5 J aa I; have fR := ge bq J; have ig := ne bg J; have dO := ne di J; have jI := ne eF J; have iA := ne bB J; have bE := mv I bq; have cQ := mv I cU; have dJ := mv I eo; have dG := mv I dC; have eV := mv I fg; have dw := mv I dZ; have bz := mv I bg; have dY := mv I di; have bQ := mv I eF; have bY := mv I bB; have ff := ak (aa); have kt := bQ.out.cell 0 _ rfl; have iK := bQ.out.cell 1 _ rfl; have ks := bQ.out.cell 2 _ rfl; have kr := bQ.out.cell 3 _ rfl; have kp := bQ.out.cell 4 _ rfl; have ix := bQ.out.cell 5 _ rfl; clear J aa I bq cU eo dC fg dZ bg di eF bB))
 go_cut [9] from 38 to 39 (fun s9 wx => s9 = .slice Al lt.length cl ∧ W5 = wx)
 case first =>
  rcases Nat.lt_or_ge 80 l.length with mA | mA
  ·have mz : decide ((80 : Int) < (l.length : Int)) = true := by simp; omega
   have wI : (((0 : Int) ≤ 80 ∧ (80 : Int) ≤ (cl : Int)) = True) := eq_true ⟨by omega, by have := HCL.out; omega⟩
   have wH : (((80 : Int) ≤ (cl : Int)) = True) := eq_true (by have := HCL.out; omega)
   go_wp2_with fail
   go_meet
   exact ⟨by rw [HLL.out, Nat.min_eq_left (by omega)], rfl⟩
  ·have mz : decide ((80 : Int) < (l.length : Int)) = false := by simp; omega
   go_wp2_with fail
   go_meet
   exact ⟨by rw [HLL.out, Nat.min_eq_right (by omega)], rfl⟩
 case rest =>
 obtain ⟨ic, ib⟩ := hcut
 subst ic
 subst ib
 go_upto_if 96 with fail
 go_cut [96] from 97 to 98 (fun vR wx => vR = .bool true ∧ W5 = wx)
 case first =>
  rcases HKD.out with dS | dS
  ·skip
   have xg : (kd = 2) = True := eq_true (by omega)
   have Qe : decide (kd = 2) = true := by simp; omega
   have Qb : (kd == 2) = true := by simp; omega
   clear dS
   go_wp2_with fail
   go_meet
   exact ⟨by first | rfl | simp [xg], rfl⟩
  ·skip
   have xg : (kd = 2) = False := eq_false (by omega)
   have Qe : decide (kd = 2) = false := by simp; omega
   have Qb : (kd == 2) = false := by simp; omega
   have zx : (kd = 3) = True := eq_true (by omega)
   have YX : decide (kd = 3) = true := by simp; omega
   have YW : (kd == 3) = true := by simp; omega
   clear dS
   go_wp2_with fail
   go_meet
   exact ⟨by first | rfl | simp [zx], rfl⟩
 case rest =>
 obtain ⟨ic, ib⟩ := hcut
 subst ic
 subst ib
 go_wp2_with fail
 have aq : Below W5.heap.size W5 W5.drew := bL (Below.refl _ _)
 have bZ := mv aq bE; have dD := mv aq cQ; have ef := mv aq dJ; have dN := mv aq dG; have eU := mv aq eV; have ez := mv aq dw; have bH := mv aq bz; have du := mv aq dY; have fJ := mv aq bQ; have cn := mv aq bY; have dI := mv aq ff
 clear aq bE cQ dJ dG eV dw bz dY bQ bY ff kt iK ks kr kp ix
 have hB := bZ
 have hF := dD
 have hG := ef
 have hS := dN
 have hP := eU
 have hM := ez
 have hX := bH
 have hY := du
 have hT := fJ
 have hZ := cn
 have hU := dI
 clear bZ dD ef dN eU ez bH du fJ cn dI
 refine dR (n := 5) (S := fun w' => aX w' gX (bk b.addr b.aff b.slots (.slice Af b.free.length cf) (.slice Aa b.attrs.length ca)) 57 ∧ aX w' gY (dH b.addr b.aff (.slice As b.slots.length cs) (.slice Ap b.free.length cp) (.slice Am M.length cm)) 62) (ds := []) #[false, false, false, false, false] (by kernel_rfl) rfl rfl ⟨hX.out, hY.out⟩ (fun hHeld => ?_); refine b5 mW.tab37 mW.bits37 (fun ag bM => ?_)
 refine tk 0 ag.out bM.out hHeld ?_ (hv := by exact fun _ bj => aY 57 (.tmp 3) rfl gX rfl _ _ _ bj.1 Try.underlying57 rfl HLB.out)
 refine tk 1 ag.out bM.out hHeld ?_ (hv := by exact fun _ bj => aY 62 (.tmp 4) rfl gY rfl _ _ _ bj.2 Try.underlying62 rfl (by kernel_rfl))
 refine ow 2 ag.out (fun K hK => ?_)
 refine bS (by rfl) rfl 57 (.tmp 6) (.tmp 235) rfl gZ (bk b.addr b.aff b.slots (.slice Af b.free.length cf) (.slice Aa b.attrs.length ca)) rfl rfl 57 _ hZ.out 68 (by kernel_rfl) (ao _ _ _ _ _ HL.out) rfl (cA _ _ _ _ _ rfl rfl) ?_
 intro V2 aa J; replace hB := gb hB ct J; replace hF := gr hF hZ J; replace hG := gr hG hZ J; replace hS := gr hS hZ J; replace hP := gr hP hZ J; replace hM := gr hM hZ J; replace hX := gn hX aU J; replace hY := gx hY hZ J; replace hT := gx hT hZ J; replace hU := gx hU hZ J; replace hZ := ak (aa); clear aa J
 refine hK.out _ _ ⟨hX.out, hY.out⟩ (fun hHeld => ?_)
 clear hK K
 refine ow 3 ag.out (fun K hK => ?_)
 refine bS (by rfl) rfl 62 (.tmp 7) (.tmp 236) rfl gU (dH b.addr b.aff (.slice As b.slots.length cs) (.slice Ap b.free.length cp) (.slice Am M.length cm)) rfl rfl 62 _ hU.out 5 (by kernel_rfl) rfl rfl (et _ _ rfl rfl rfl) ?_
 intro V3 aa J; replace hB := gb hB fR J; replace hF := gr hF hU J; replace hG := gr hG hU J; replace hS := gr hS hU J; replace hP := gr hP hU J; replace hM := gr hM hU J; replace hX := gx hX hU J; replace hY := gn hY dO J; replace hT := gx hT hU J; replace hZ := gx hZ hU J; replace hU := ak (aa); clear aa J
 refine hK.out _ _ ⟨hX.out, hY.out⟩ (fun hHeld => ?_)
 clear hK K
 refine pu 4 ag.out ?_
 refine dn ag.out ?_
 clear hHeld
 go_wp2_with fail
 refine bodyPost_ret (fD rfl _ _ _ gZ gU 57 62 _ _ _ _ rfl hZ.out rfl Try.underlying57 (by first | exact HLB.out | exact HLN _ _ _ _) rfl hU.out rfl Try.underlying62 (by kernel_rfl)) rfl ⟨_, _, b, rfl, ?_, ?_, ?_, hB.out⟩
 ·exact HG.out
 ·exact ⟨HL.out, _, _, rfl, hF.out, hG.out⟩
 ·exact ⟨_, _, _, rfl, hS.out, hP.out, by rw [← HM.out]; exact hM.out⟩
set_option maxHeartbeats 16000000 in
set_option maxRecDepth 100000 in
theorem Ss (b : Bk) (hg : RG b) (kd : Int) (hkd : kd = 2 ∨ kd = 3) (n : Int) (hn : n < 9223372036854775808) (a : lN) (fE : a.f0.size ≤ 9223372036854775807) (gh : a.f1.size ≤ 9223372036854775807) (l : List Int) (hu : ∀ x ∈ l, 0 ≤ x ∧ x < 4294967296) (hlm : l.length ≤ 9223372036854775807) (Al : Option Addr) (cl : Nat) (hcl : l.length ≤ cl) (aff : ByteArray) (hza : aff.size ≤ 9223372036854775807) (he : 0 < l.length) (v v2 : Value) (w : World) (base : Nat) (hbase : base ≤ w.heap.size) (hO : eP w base v b) (hR : fw w base v2 b) (hC : Kd.C (Kd.int .u32) w Al l.length l) :
  Calls Try.prog 47 #[v, v2, .agg #[.int .i64 kd, .int .i64 n, .string a.f0, .string a.f1, .slice Al l.length cl, .string aff]] w fun e w' => ∃ v1 v2 b', e = .returned (.tuple #[v1, v2, .bool true]) ∧ RG b' ∧ eP w' base v1 b' ∧ fw w' base v2 b' ∧ Below w.heap.size w w' := by
 obtain ⟨hl, vf, va, rfl, hf, ha⟩ := hO
 obtain ⟨vs, vp, vm, rfl, hs, hp, hm⟩ := hR
 obtain ⟨Af, cf, rfl⟩ := Kd.R_slice hf
 obtain ⟨Aa, ca, rfl⟩ := Kd.R_slice ha
 obtain ⟨As, cs, rfl⟩ := Kd.R_slice hs
 obtain ⟨Ap, cp, rfl⟩ := Kd.R_slice hp
 obtain ⟨M, hM⟩ : ∃ M, M = b.attrs.map vc := ⟨_, rfl⟩
 rw [← hM] at hm
 obtain ⟨Am, cm, rfl⟩ := Kd.R_slice hm
 have HL := ak hl
 have HM := ak hM
 have bU := ak hf
 have eT := ak ha
 have bl := ak hs
 have eR := ak hp
 have cb := ak hm
 have HG := ak hg
 have an := ak (Below.refl w.heap.size w)
 have HBASE := ak hbase
 have HLB := ak (dc (bk b.addr b.aff b.slots (.slice Af b.free.length cf) (.slice Aa b.attrs.length ca)) (ao _ _ _ _ _ HL.out))
 obtain ⟨lt, hlt⟩ : ∃ lt, lt = l.take 80 := ⟨_, rfl⟩
 have hut : ∀ x ∈ lt, 0 ≤ x ∧ x < 4294967296 := fun x hx => hu x (by rw [hlt] at hx; exact List.mem_of_mem_take hx)
 have hll : lt.length = min 80 l.length := by rw [hlt, List.length_take]
 have HCL := ak hcl
 have HLL := ak hll
 have HC := ak hC
 have HCT := ak (fun W (I : Below w.heap.size w W) => (show Kd.C (Kd.int .u32) W Al lt.length lt by
  rcases Nat.lt_or_ge 80 l.length with h | h
  ·have h_ := Kd.C_take (m := 80) (Kd.C_below hC I) (by omega)
   rw [← hlt] at h_
   exact h_
  ·have h_ := Kd.C_below hC I
   have e : lt = l := by rw [hlt, List.take_of_length_le h]
   rw [e]
   exact h_))
 have q0 : (kd = 0) = False := eq_false (by omega)
 have r0 : decide (kd = 0) = false := decide_eq_false (by omega)
 have u0 : (kd == 0) = false := beq_eq_false_iff_ne.mpr (by omega)
 have q1 : (kd = 1) = False := eq_false (by omega)
 have r1 : decide (kd = 1) = false := decide_eq_false (by omega)
 have u1 : (kd == 1) = false := beq_eq_false_iff_ne.mpr (by omega)
 have HKD := ak hkd
 have Qz : 0 < lt.length := by omega
 obtain ⟨x, hx⟩ : ∃ x, x = lt[0] := ⟨_, rfl⟩
 have kE := hut lt[0] (List.getElem_mem Qz)
 rw [← hx] at kE
 obtain ⟨ad, hAl, hcx⟩ : ∃ ad, Al = some ad ∧ ∀ W, Below w.heap.size w W → W.cell? (ad.add 0) = some (.int .u32 x) := by
  obtain ⟨ad, eA, _⟩ := Kd.at_int (HCT.out w (Below.refl _ _)) 0 (by omega) (by omega)
  refine ⟨ad, eA, fun W hb => ?_⟩
  obtain ⟨Z1, ZS, hc⟩ := Kd.at_int (HCT.out W hb) 0 (by omega) (by omega)
  have : ad = Z1 := Option.some.inj (eA.symm.trans ZS)
  subst this
  have h2 : rd lt 0 = x := by rw [hx]; simp [rd, List.getD, Qz]
  rw [← h2]
  exact hc
 subst hAl
 have HCX := ak hcx
 have p1 : ((0 : Int) < (lt.length : Int)) = True := eq_true (by omega)
 have p2 : (0 < lt.length) = True := eq_true (by omega)
 have p3 : decide (0 < lt.length) = true := decide_eq_true (by omega)
 have HLA := ak (fun v v2 w h1 h2 h3 => FF b hg x kE.1 kE.2 a fE gh v v2 w base h1 h2 h3)
 clear Qz hx kE hcx he hkd
 clear hl hM hf ha hs hp hm hbase hC hu hut hll hcl hlt hg
 go_enter Try.func47, Try.ntmps47
 go_upto_if 37 with (first
  | (refine aV rfl 57 (.tmp 0) rfl _ rfl ?_; intro gX W1 J aa I; have cw := ge an J; have aA := ak (an.out.trans (I.mono an.out.size)); have bJ := mv I bU; have ea := mv I eT; have bC := mv I bl; have ee := mv I eR; have b7 := mv I cb; have au := ak (aa); clear J aa I an bU eT bl eR cb)
  | (refine aV rfl 62 (.tmp 1) rfl _ rfl ?_; intro gY W2 J aa I; have jT := ge aA J; have gC := ne au J; have aK := mv I aA; have ch := mv I bJ; have er := mv I ea; have b4 := mv I bC; have ej := mv I ee; have dm := mv I b7; have aI := mv I au; have dk := ak (aa); clear J aa I aA bJ ea bC ee b7 au)
  | (refine aV rfl 79 (.tmp 2) rfl _ rfl ?_; intro gT W3 J aa I; have ld := ge aK J; have iL := ne aI J; have jf := ne dk J; have aT := mv I aK; have cW := mv I ch; have eG := mv I er; have cH := mv I b4; have eN := mv I ej; have dT := mv I dm; have aQ := mv I aI; have dj := mv I dk; have ey := ak (aa); clear J aa I aK ch er b4 ej dm aI dk)
  | (refine aH (some 6) rfl rfl 57 rfl bu b6 ?_; intro gZ W4 J aa I; have ct := ge aT J; have aU := ne aQ J; have gS := ne dj J; have ky := ne ey J; have bq := mv I aT; have cU := mv I cW; have eo := mv I eG; have dC := mv I cH; have fg := mv I eN; have dZ := mv I dT; have bg := mv I aQ; have di := mv I dj; have eF := mv I ey; have bB := ak (aa); clear J aa I aT cW eG cH eN dT aQ dj ey)
  | (refine aH (some 7) rfl rfl 62 rfl dW (fun _ => by kernel_rfl) ?_; intro gU W5 J aa I; have fR := ge bq J; have ig := ne bg J; have dO := ne di J; have jI := ne eF J; have iA := ne bB J; have bE := mv I bq; have cQ := mv I cU; have dJ := mv I eo; have dG := mv I dC; have eV := mv I fg; have dw := mv I dZ; have bz := mv I bg; have dY := mv I di; have bQ := mv I eF; have bY := mv I bB; have ff := ak (aa); have kt := bQ.out.cell 0 _ rfl; have iK := bQ.out.cell 1 _ rfl; have ks := bQ.out.cell 2 _ rfl; have kr := bQ.out.cell 3 _ rfl; have kp := bQ.out.cell 4 _ rfl; have ix := bQ.out.cell 5 _ rfl; clear J aa I bq cU eo dC fg dZ bg di eF bB))
 go_cut [9] from 38 to 39 (fun s9 wx => s9 = .slice (some ad) lt.length cl ∧ W5 = wx)
 case first =>
  rcases Nat.lt_or_ge 80 l.length with mA | mA
  ·have mz : decide ((80 : Int) < (l.length : Int)) = true := by simp; omega
   have wI : (((0 : Int) ≤ 80 ∧ (80 : Int) ≤ (cl : Int)) = True) := eq_true ⟨by omega, by have := HCL.out; omega⟩
   have wH : (((80 : Int) ≤ (cl : Int)) = True) := eq_true (by have := HCL.out; omega)
   go_wp2_with fail
   go_meet
   exact ⟨by rw [HLL.out, Nat.min_eq_left (by omega)], rfl⟩
  ·have mz : decide ((80 : Int) < (l.length : Int)) = false := by simp; omega
   go_wp2_with fail
   go_meet
   exact ⟨by rw [HLL.out, Nat.min_eq_right (by omega)], rfl⟩
 case rest =>
 obtain ⟨ic, ib⟩ := hcut
 subst ic
 subst ib
 go_upto_if 96 with fail
 go_cut [96] from 97 to 98 (fun vR wx => vR = .bool true ∧ W5 = wx)
 case first =>
  rcases HKD.out with dS | dS
  ·skip
   have xg : (kd = 2) = True := eq_true (by omega)
   have Qe : decide (kd = 2) = true := by simp; omega
   have Qb : (kd == 2) = true := by simp; omega
   clear dS
   go_wp2_with fail
   go_meet
   exact ⟨by first | rfl | simp [xg], rfl⟩
  ·skip
   have xg : (kd = 2) = False := eq_false (by omega)
   have Qe : decide (kd = 2) = false := by simp; omega
   have Qb : (kd == 2) = false := by simp; omega
   have zx : (kd = 3) = True := eq_true (by omega)
   have YX : decide (kd = 3) = true := by simp; omega
   have YW : (kd == 3) = true := by simp; omega
   clear dS
   go_wp2_with fail
   go_meet
   exact ⟨by first | rfl | simp [zx], rfl⟩
 case rest =>
 obtain ⟨ic, ib⟩ := hcut
 subst ic
 subst ib
 go_wp2_with fail
 have aq : Below W5.heap.size W5 W5.drew := bL (Below.refl _ _)
 have bZ := mv aq bE; have dD := mv aq cQ; have ef := mv aq dJ; have dN := mv aq dG; have eU := mv aq eV; have ez := mv aq dw; have bH := mv aq bz; have du := mv aq dY; have fJ := mv aq bQ; have cn := mv aq bY; have dI := mv aq ff
 clear aq bE cQ dJ dG eV dw bz dY bQ bY ff kt iK ks kr kp ix
 have hB := bZ
 have hF := dD
 have hG := ef
 have hS := dN
 have hP := eU
 have hM := ez
 have hX := bH
 have hY := du
 have hT := fJ
 have hZ := cn
 have hU := dI
 clear bZ dD ef dN eU ez bH du fJ cn dI
 refine dR (n := 14) (S := fun w' => aX w' gX (bk b.addr b.aff b.slots (.slice Af b.free.length cf) (.slice Aa b.attrs.length ca)) 57 ∧ aX w' gY (dH b.addr b.aff (.slice As b.slots.length cs) (.slice Ap b.free.length cp) (.slice Am M.length cm)) 62 ∧ aX w' gT [.int .i64 kd, .int .i64 n, .string a.f0, .string a.f1, .slice (some ad) l.length cl, .string aff] 79 ∧ Below w.heap.size w w') (ds := []) #[false, false, false, false, false, false, false, false, false, false, false, false, false, false] (by kernel_rfl) rfl rfl ⟨hX.out, hY.out, hT.out, hB.out⟩ (fun hHeld => ?_); refine b5 tm.tab15 tm.bits15 (fun ag bM => ?_)
 refine tk 0 ag.out bM.out hHeld ?_ (hv := by exact fun _ bj => aY 57 (.tmp 3) rfl gX rfl _ _ _ bj.1 Try.underlying57 rfl HLB.out)
 refine tk 1 ag.out bM.out hHeld ?_ (hv := by exact fun _ bj => aY 62 (.tmp 4) rfl gY rfl _ _ _ bj.2.1 Try.underlying62 rfl (by kernel_rfl))
 refine pu 2 ag.out ?_
 refine pu 3 ag.out ?_
 refine tk 4 ag.out bM.out hHeld ?_ (hv := by intro w' bj; have QR := HCX.out w' bj.2.2.2; have h5_ : w'.cell? ad = some (.int .u32 x) := QR; go_simp; with_reducible rfl)
 refine pu 5 ag.out ?_
 refine tk 6 ag.out bM.out hHeld ?_ (hv := by exact fun _ bj => pg 76 (.tmp 107) rfl gT 2 rfl _ _ [.string a.f0, .string a.f1] _ bj.2.2.1 xv Try.underlying76 rfl (by kernel_rfl))
 refine on 7 ag.out (fun K hK => ?_)
 refine gs Try.func83 #[.agg (bk b.addr b.aff b.slots (.slice Af b.free.length cf) (.slice Aa b.attrs.length ca)).toArray, .agg (dH b.addr b.aff (.slice As b.slots.length cs) (.slice Ap b.free.length cp) (.slice Am M.length cm)).toArray, .int .u32 x, .agg #[.string a.f0, .string a.f1]] (HLA.out _ _ _ (lb HBASE hB) ⟨HL.out, _, _, rfl, hF.out, hG.out⟩ ⟨_, _, _, rfl, hS.out, hP.out, by rw [← HM.out]; exact hM.out⟩) ?_
 rintro e V7 ⟨v8, v9, nb, rfl, hrg, bc, fS, I⟩
 refine ⟨_, rfl, ?_⟩
 replace hB := mv I hB; replace hF := mv I hF; replace hG := mv I hG; replace hS := mv I hS; replace hP := mv I hP; replace hM := mv I hM; replace hX := mv I hX; replace hY := mv I hY; replace hT := mv I hT; replace hZ := mv I hZ; replace hU := mv I hU; have HRG := ak hrg; have HNL := ak hrg.l64; obtain ⟨iZ, p6, p7, rfl, dM, ew⟩ := bc; obtain ⟨A8, c8, rfl⟩ := Kd.R_slice dM; obtain ⟨A9, c9, rfl⟩ := Kd.R_slice ew; obtain ⟨wZ, sZ, ta, rfl, ie, fP, fi⟩ := fS; obtain ⟨A1, c1, rfl⟩ := Kd.R_slice ie; obtain ⟨A2, c2, rfl⟩ := Kd.R_slice fP; obtain ⟨NM, hNM⟩ : ∃ NM, NM = nb.attrs.map vc := ⟨_, rfl⟩; rw [← hNM] at fi; have HNM := ak hNM; obtain ⟨A3, c3, rfl⟩ := Kd.R_slice fi; have hC := ak dM; have hD := ak ew; have hI := ak ie; have hJ := ak fP; have hE := ak fi; clear hrg iZ dM ew hNM ie fP fi I
 refine kn hK ⟨hX.out, hY.out, hT.out, hB.out⟩ (fun hHeld => ?_)
 clear hK K
 refine pu 8 ag.out ?_
 refine pu 9 ag.out ?_
 refine pu 10 ag.out ?_
 refine ow 11 ag.out (fun K hK => ?_)
 refine bS (by rfl) rfl 57 (.tmp 6) (.tmp 110) rfl gZ (bk nb.addr nb.aff nb.slots (.slice A8 nb.free.length c8) (.slice A9 nb.attrs.length c9)) rfl rfl 57 _ hZ.out 68 (by kernel_rfl) (ao _ _ _ _ _ HNL.out) rfl (cA _ _ _ _ _ rfl rfl) ?_
 intro p9 aa J; replace hB := gb hB ct J; replace hF := gr hF hZ J; replace hG := gr hG hZ J; replace hS := gr hS hZ J; replace hP := gr hP hZ J; replace hM := gr hM hZ J; replace hX := gn hX aU J; replace hY := gx hY hZ J; replace hT := gx hT hZ J; replace hU := gx hU hZ J; replace hC := gr hC hZ J; replace hD := gr hD hZ J; replace hI := gr hI hZ J; replace hJ := gr hJ hZ J; replace hE := gr hE hZ J; replace hZ := ak (aa); clear aa J
 refine hK.out _ _ ⟨hX.out, hY.out, hT.out, hB.out⟩ (fun hHeld => ?_)
 clear hK K
 refine ow 12 ag.out (fun K hK => ?_)
 refine bS (by rfl) rfl 62 (.tmp 7) (.tmp 111) rfl gU (dH nb.addr nb.aff (.slice A1 nb.slots.length c1) (.slice A2 nb.free.length c2) (.slice A3 NM.length c3)) rfl rfl 62 _ hU.out 5 (by kernel_rfl) rfl rfl (et _ _ rfl rfl rfl) ?_
 intro Rk aa J; replace hB := gb hB fR J; replace hF := gr hF hU J; replace hG := gr hG hU J; replace hS := gr hS hU J; replace hP := gr hP hU J; replace hM := gr hM hU J; replace hX := gx hX hU J; replace hY := gn hY dO J; replace hT := gx hT hU J; replace hZ := gx hZ hU J; replace hC := gr hC hU J; replace hD := gr hD hU J; replace hI := gr hI hU J; replace hJ := gr hJ hU J; replace hE := gr hE hU J; replace hU := ak (aa); clear aa J
 refine hK.out _ _ ⟨hX.out, hY.out, hT.out, hB.out⟩ (fun hHeld => ?_)
 clear hK K
 refine pu 13 ag.out ?_
 refine dn ag.out ?_
 clear hHeld
 have HLN := fun A8 c8 A9 c9 => dc (bk nb.addr nb.aff nb.slots (.slice A8 nb.free.length c8) (.slice A9 nb.attrs.length c9)) (ao _ _ _ _ _ HNL.out)
 go_wp2_with fail
 refine bodyPost_ret (fD rfl _ _ _ gZ gU 57 62 _ _ _ _ rfl hZ.out rfl Try.underlying57 (by first | exact HLB.out | exact HLN _ _ _ _) rfl hU.out rfl Try.underlying62 (by kernel_rfl)) rfl ⟨_, _, nb, rfl, ?_, ?_, ?_, hB.out⟩
 ·exact HRG.out
 ·exact ⟨HNL.out, _, _, rfl, hC.out, hD.out⟩
 ·exact ⟨_, _, _, rfl, hI.out, hJ.out, by rw [← HNM.out]; exact hE.out⟩
end Go.Proofs.Ytemhalnhbgkbcaa.V
end

