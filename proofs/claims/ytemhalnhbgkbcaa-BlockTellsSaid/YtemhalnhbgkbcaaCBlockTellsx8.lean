/- The law BlockTells for every input: texts of ours, put together (part 9 of 16). No further condition. -/
import Derived.Test.YtemhalnhbgkbcaaCBlockTellsx2
import Derived.Test.YtemhalnhbgkbcaaCBlockTellsx6
import Derived.Test.YtemhalnhbgkbcaaCBlockTellsx7
import Derived.Outline
import Derived.Test.YtemhalnhbgkbcaaCBlockTellsx5
import Derived.Test.YtemhalnhbgkbcaaCBlockTellsx4
import Derived.Test.YtemhalnhbgkbcaaCBlockTellsx3
import Derived.Lib.ConvBytes
import Derived.Lib.AtoiErrMem
import Derived.Laws.CopyRow
import Derived.Laws.IdiomCopy
import Derived.Test.YtemhalnhbgkbcaaCBlockTellsw0
import Derived.ArgAppend
import Derived.Lib.SlBytesConst
set_option linter.unusedVariables false
set_option linter.unusedSimpArgs false
open Go.RowKit Go.Proofs.YtemhalnhbgkbcaaW.PrintWords Go.Proofs.YtemhalnhbgkbcaaW.PrintLast Go.Proofs.YtemhalnhbgkbcaaW.PrintMore Go.Proofs.Ytemhalnhbgkbcaa.Z
section
namespace Go.Proofs.Ytemhalnhbgkbcaa.V
theorem uv (xs : List Int) (A : Option Addr) (c m : Nat) (w : World) (hr : Kd.C (Kd.int .u8) w A xs.length xs) (hm : m ≤ xs.length) (hc : xs.length ≤ c) (hl : xs.length ≤ 4294967296) (A' : Option Addr) (hA : A' = if c = m then A else A.map (fun x => x.add m)) :
  Calls Try.prog 91 #[.slice A' (xs.length - m) (c - m)] w fun e w' => ∃ v, e = .returned v ∧ Kd.R (Kd.int .u8) 5 w' w.heap.size (fun _ => True) v (xs.drop m) ∧ Below w.heap.size w w' := by
 subst hA
 have h := Kd.C_drop hr hm hc
 have hld : (xs.drop m).length = xs.length - m := List.length_drop
 have h2 := C6 (xs.drop m) _ (c - m) w h (by omega) (by omega)
 rw [hld] at h2
 have e : (A.map fun x => x.add (m * (Kd.int .u8).sz)) = A.map fun x => x.add m := by
  cases A with
  | none => rfl
  | some ad => show some (ad.add (m * 1)) = some (ad.add m); rw [Nat.mul_one]
 rw [e] at h2
 exact h2
theorem iL : (Try.prog.info? 46).map (fun i => (i.zero, i.size, i.bytes)) = some (some (.int .u32 0), 1, 4) := by kernel_rfl
set_option maxHeartbeats 16000000 in
set_option maxRecDepth 100000 in
theorem CO (b : Bk) (hk : BkOk b) (m : Nat) (lG : m < b.free.length) (a : At) (hrt : dm b = true) (hm : eo a = true) (v : Value) (w : World) (h : fS w v b) :
  Calls Try.prog 49 #[v, .int .i64 (m : Int), ej a] w fun e w' => ∃ v' vo, e = .returned (.tuple #[v', vo, .int .i64 0]) ∧ ea w' w.heap.size v' (eV b m a) ∧ Kd.R (Kd.int .u32) 46 w' w.heap.size (fun _ => True) vo (fj b m) ∧ Below w.heap.size w w' := by
 obtain ⟨A, c, A', c', rfl, hr⟩ := h
 have hp := iw hrt
 have hsum := hp.sum_le hk hr.l64
 have HL := ak hr.l64
 have HR := ak hr
 have HK := ak hk
 have HRT := ak hrt
 have HMY := ak hm
 have HP := ak hp
 have hfl : b.free.length ≤ 64 := by omega
 have HCP := ak (mc b (by omega) (by omega))
 have ae := ak (Below.refl w.heap.size w)
 have HSUM := ak hsum
 clear hr hk hrt hm hp hsum
 go_enter Try.func49, Try.ntmps49
 go_wp2_with (first
  | (refine aE rfl 57 (.tmp 0) rfl _ rfl ?_; intro gX W1 J aa I; have bQ := ge ae J; have ai := ak (ae.out.trans (I.mono ae.out.size)); have ah := ak (aa); clear J aa I ae)
  | (refine aE rfl 85 (.tmp 2) rfl _ rfl ?_; intro gA W2 J aa I; have ku := ge ai J; have eD := ne ah J; have av := mv I ai; have au := mv I ah; have cd := ak (aa); clear J aa I ai ah)
  | (refine aw (some 6) rfl rfl 57 rfl a9 bP ?_; intro gZ W3 J aa I; have bN := ge av J; have aG := ne au J; have gf := ne cd J; have aD := mv I av; have aA := mv I au; have dq := mv I cd; have bL := ak (aa); clear J aa I av au cd)
  | ((with_reducible refine ax (N := 12) rfl ?_); refine az rfl 57 (.tmp 3) rfl gX rfl _ _ _ aA.out Try.underlying57 rfl 68 (by kernel_rfl) (ag _ _ _ _ _ HL.out) ?_)
  | (go_at_call 48; refine (dH b HK.out _ _ ⟨A, c, A', c', rfl, HR.out.below aD.out⟩).mono ?_; rintro e W4 ⟨rfl, I⟩; rw [HRT.out]; have aY := mv I aD; have aV := mv I aA; have dI := mv I dq; have a8 := mv I bL; clear I aD aA dq bL)
  | ((with_reducible refine ax (N := 16) rfl ?_); refine ff (by rfl) ?_; refine az rfl 85 (.tmp 5) rfl gA rfl _ _ _ dI.out Try.underlying85 rfl 2 (by kernel_rfl) rfl ?_)
  | (go_at_call 88; refine (jB a _).mono ?_; rintro e W5 ⟨rfl, I⟩; rw [HMY.out]; have bf := mv I aY; have bb := mv I aV; have eJ := mv I dI; have bu := mv I a8; clear I aY aV dI a8)
  | ((with_reducible refine ax (N := 25) rfl ?_); refine az rfl 57 (.tmp 3) rfl gX rfl _ _ _ bb.out Try.underlying57 rfl 68 (by kernel_rfl) (ag _ _ _ _ _ HL.out) ?_)
  | (go_at_call 89; refine (HCP.out _ _ ⟨A, c, A', c', rfl, HR.out.below bf.out⟩).mono ?_; rintro e W6 ⟨v5, rfl, uj, I⟩; obtain ⟨um, vf, va, rfl, lQ, lV⟩ := uj; obtain ⟨Af, cf, rfl⟩ := Kd.R_slice lQ; obtain ⟨Aa, ca, rfl⟩ := Kd.R_slice lV; have HSZ := ak bf.out.size; have tt := ak (show gX < W5.heap.size from bb.out.lt); have nH := ak (show gA < W5.heap.size from eJ.out.lt); have nG := ak (show gZ < W5.heap.size from bu.out.lt); have bG := mv I bf; have bh := mv I bb; have fy := mv I eJ; have bS := mv I bu; have cQ := ak (lQ); have dt := ak (lV); have cY := ak (I.size); clear um lQ lV I bf bb eJ bu)
  | (refine aN rfl 57 (.tmp 3) (.tmp 26) rfl gX (aZ b.addr b.aff b.slots (.slice Af b.free.length cf) (.slice Aa b.attrs.length ca)) rfl rfl 57 _ bh.out 68 (by kernel_rfl) (ag _ _ _ _ _ HL.out) (ag _ _ _ _ _ HL.out) (b4 _ _ _ _ _ rfl rfl) ?_; intro W7 aa J; have dU := gb bG bQ J; have dj := ak (OC.stored HL.out bh.out aa cQ.out dt.out J); have kj := gx fy bh J; have dz := gm bS aG J; have eZ := gr cQ bh J; have je := gr dt bh J; have fN := ak (Nat.le_trans cY.out J.size); have mO := aa.cell 66 _ (fP _ _ _ _ _ HL.out); have LA : b.free.length ≤ cf := (Kd.R_reads' eZ.out).2.1; clear aa J bG bh fy bS cQ dt cY))
 clear mO
 obtain ⟨b1, cy⟩ : ∃ b1, b1 = W5.heap.size := ⟨_, rfl⟩
 rw [← cy] at dj eZ fN tt nH nG HSZ
 have cn := ak (show w.heap.size ≤ b1 from HSZ.out)
 clear cy HSZ
 have hmf : m ≤ b.free.length := by omega
 go_loopw [9, 11, 36] (fun o _ i W => ∃ k : Nat, k ≤ m ∧ i = .int .i64 k ∧ Aside0 (OC W b1 gX (dS b k a)) ∧ Aside0 (Kd.R (Kd.int .u32) 46 W w.heap.size (fun _ => True) o (fj b k)) ∧ Aside0 (aH W gA [.string a.f0, .string a.f1] 85) ∧ Aside0 (aH W gZ a9 57) ∧ Aside0 (Kd.R (Kd.int .u8) 5 W b1 (fun _ => True) (.slice Af b.free.length cf) b.free) ∧ Aside0 (b1 ≤ W.heap.size) ∧ Aside0 (Below w.heap.size w W)) (fun _ _ i _ => m - (intOf i).toNat)
 case atStart => exact ⟨0, by omega, rfl, dj, ⟨Kd.R_nil _ _ _ _ _⟩, kj, dz, eZ, fN, dU⟩
 case round =>
  clear dU dj kj dz eZ fN
  obtain ⟨k, hk, rfl, aJ, bF, gO, br, bw, aX, ae⟩ := hrel
  obtain ⟨W, rfl⟩ : ∃ W : World, W = wr := ⟨_, rfl⟩
  by_cases hkn : k < m
  ·have hkb : decide ((k : Int) < (m : Int)) = true := by simp; omega
   have hkf : k < b.free.length := by omega
   obtain ⟨ad, eA, hx⟩ := Kd.at_int (Kd.R_reads' bw.out).2.2 k (by omega) (by omega)
   cases eA
   rw [Int.toNat_natCast] at hx
   obtain ⟨j, hj⟩ : ∃ j : Nat, rd b.free k = (j : Int) := ⟨(rd b.free k).toNat, by have := (mP HK.out.f8 k).1; omega⟩
   have oY : j < 64 := by
    have h1 := HP.out.fr k hkf
    unfold jh at h1
    rw [Bool.or_eq_false_iff, decide_eq_false_iff_not] at h1
    have := h1.1
    omega
   rw [hj] at hx
   have HSC := ak (show dS b (k + 1) a = ⟨(dS b k a).addr, (dS b k a).aff, (dS b k a).slots.set (rd b.free k).toNat (eF (dS b k a).attrs a : Nat), (dS b k a).free, eh (dS b k a).attrs a⟩ from oI b k a hkf)
   have HSO := ak (oH b k hkf)
   rw [hj] at HSC HSO
   rw [Int.toNat_natCast] at HSC
   have hol := iF b k (by omega)
   have HOL := ak hol
   have HAL := ak (show (dS b k a).attrs.length ≤ 100 by
    have := pC b.attrs a
    have := HSUM.out
    show (if k = 0 then b.attrs else eh b.attrs a).length ≤ 100
    split <;> omega)
   obtain ⟨bm, hbm⟩ : ∃ bm, bm = dS b k a := ⟨_, rfl⟩
   have hadr : bm.addr = b.addr := by rw [hbm]; rfl
   have HADR := ak hadr
   clear hadr
   rw [← hbm] at aJ HSC HAL
   obtain ⟨oo, hoo⟩ : ∃ oo, oo = fj b k := ⟨_, rfl⟩
   obtain ⟨o1, fw⟩ : ∃ o1, o1 = fj b (k + 1) := ⟨_, rfl⟩
   rw [← hoo] at bF HSO HOL
   rw [← fw, ← HADR.out] at HSO
   have kA := ak fw
   have zk : 0 ≤ bm.addr := by rw [HADR.out]; exact HK.out.a0
   have kM : bm.addr + 64 ≤ 4294967296 := by
    rw [HADR.out]
    have h1 := HP.out.first
    have h2 := HK.out.a1
    unfold bV at h1
    omega
   clear hol hj hbm hoo fw
   obtain ⟨Ao, co, rfl⟩ := Kd.R_slice bF.out
   go_wp2_with (first
    | ((with_reducible refine ax (N := 41) rfl ?_); refine az rfl 85 (.tmp 5) rfl gA rfl _ _ _ gO.out Try.underlying85 rfl 2 (by kernel_rfl) rfl ?_)
    | (go_at_call 90; refine (pq bm HAL.out a gX b1 w.heap.size _ bQ.out cn.out aX.out aJ.out).mono ?_; rintro e W1 ⟨rfl, aW, I, cD⟩; obtain ⟨MG, LZ, MF, LY, jc, _, _⟩ := aJ.out.open; have ah := ak (aW); have cr := ak (Kd.R_added bF.out jc (by decide) cD); have jG := ak (aH.added gO.out (Ne.symm eD.out) nH.out cD); have bM := ak (aH.added br.out (Ne.symm aG.out) nG.out cD); have bp := ak (Kd.R_added bw.out jc (by decide) cD); have bd := ak (Nat.le_trans aX.out cD.1); have ai := ak (ae.out.trans I); have mO := (show OC W1 b1 gX ⟨bm.addr, bm.aff, bm.slots, bm.free, eh bm.attrs a⟩ from ah.out).slotCell j oY; have Be := ah.out.frozen (2 + j); have Bh := ah.out.addrCell; clear aW I cD jc aJ bF gO br bw aX ae)
    | ((with_reducible refine cz (b := .append) (xs := #[.tmp 45, .tmp 51]) rfl ?_); at_builtin; clear mO Be Bh; obtain ⟨_, _, _, _, jc, _, _⟩ := ah.out.open; generalize bR : W1.setCell ⟨gX, 2 + j, none⟩ (.int .u8 (eF bm.attrs a : Nat)) = W2; have lE : W1.heap.size = W2.heap.size := (by rw [← bR]; simp [World.setCell]); rw [lE]; clear lE; have J : W1.grownBy W2 (some gX) := (by rw [← bR]; exact bO _ _ _ _); have au := ak (OC.slot ah.out j oY (eF bm.attrs a : Nat)); have cC := ak (bX cr.out jc (by decide) J); have cd := gm jG eD J; have bY := gm bM aG J; have bT := ak (bX bp.out jc (by decide) J); have bC := ak (Nat.le_trans bd.out J.size); have av := gb ai bQ J; rw [bR] at au; clear bR J ah cr jG bM bp bd ai jc; refine Kd.R_append (Kd.int .u32) (w0 := w) w.heap.size rfl (.tmp 45) (.tmp 51) 77 46 (.int .u32 0) 4 rfl Try.underlying77 iL rfl (by decide) (by omega) _ oo (bm.addr + (j : Int)) [.int .u32 (bm.addr + (j : Int))] (fun _ => True) (fun _ => False) rfl rfl rfl (fun _ hk => hk.elim) (fun _ _ => trivial) cC.out av.out av.out.size (by have := HOL.out; omega) ?_; intro v_ W3 aW I J fm; rw [← HSO.out] at aW; have aA := ak (OC.row au.out cC.out (by decide) (by decide) J); have eT := ak (aW); have dq := ak (cd.out.grown J (cd.out.ne_row cC.out (by decide))); have bL := ak (bY.out.grown J (bY.out.ne_row cC.out (by decide))); have cj := ak (Kd.R_over bT.out cC.out (by decide) J); have bU := ak (Nat.le_trans bC.out J.size); have aD := ak (I); obtain ⟨AO, cO, rfl⟩ := Kd.R_slice aW; clear aW I J fm au cC cd bY bT bC av))
   go_roundw
   case rel => exact ⟨k + 1, by omega, by go_num, ⟨by rw [HSC.out]; exact aA.out⟩, ⟨by rw [← kA.out]; exact eT.out⟩, dq, bL, cj, bU, aD⟩
   case measure => simp [intOf]; omega
  ·obtain rfl : k = m := by omega
   have hkb : decide ((k : Int) < (k : Int)) = false := by simp
   have hol := iF b k (by omega)
   obtain ⟨oo, hoo⟩ : ∃ oo, oo = fj b k := ⟨_, rfl⟩
   obtain ⟨bm, hbm⟩ : ∃ bm, bm = dS b k a := ⟨_, rfl⟩
   rw [← hoo] at bF hol
   rw [← hbm] at aJ
   have HOO := ak hoo
   have hfr : bm.free = b.free := by rw [hbm]; rfl
   have HBK := ak (show eV b k a = ⟨bm.addr, bm.aff, bm.slots, bm.free.drop oo.length, bm.attrs⟩ by rw [hol, hbm]; rfl)
   obtain ⟨Ao, co, rfl⟩ := Kd.R_slice bF.out
   obtain ⟨A1, c1, A2, c2, hxx, mN, kM⟩ := aJ.out.open
   have hqa : bm.free.length ≤ c1 := (Kd.R_reads' mN).2.1
   have hqb : oo.length ≤ bm.free.length := by rw [hfr, hol]; omega
   have hqc : bm.free.length ≤ 64 := by rw [hfr]; omega
   have HQ := ak (Kd.R_reads' mN).2.2
   have j4 := ak kM
   have HXX := ak hxx
   have HL := ak aJ.out.l64
   have HWS := ak ae.out.size
   have mO := hxx.cell 66 _ (fP _ _ _ _ _ HL.out)
   have HCD := ak (fun w' (h : Kd.C (Kd.int .u8) w' A1 bm.free.length bm.free) => uv bm.free A1 c1 oo.length w' h hqb hqa (by omega) _ rfl)
   have hne : ¬ c1 = oo.length := by rw [hol]; rw [hfr] at hqa; omega
   rw [if_neg hne] at HCD
   obtain ⟨fd, hfd⟩ : ∃ fd, fd = bm.free.drop oo.length := ⟨_, rfl⟩
   rw [← hfd] at HCD HBK
   clear hxx mN kM hol hoo hbm hfr hfd
   go_wp2_with (first
    | (go_at_call 91; refine (HCD.out _ HQ.out).mono ?_; rintro e W1 ⟨Oa, rfl, di, I⟩; clear mO; obtain ⟨uS, ux, rfl⟩ := Kd.R_slice di; have ah := mv I HXX; have cr := mv I bF; have bM := mv I br; have bd := ak (Nat.le_trans aX.out I.size); have ai := ak (ae.out.trans (I.mono ae.out.size)); have cZ := mv I j4; have uP := ak (di); have qo := ah.out.cell 66 _ (fP _ _ _ _ _ HL.out); have AS := ah.out.frozen 66; clear di I HXX bF br aX ae j4)
    | (generalize bR : W1.setCell ⟨gX, 66, none⟩ (.slice uS fd.length ux) = W2; have J : W1.grownBy W2 (some gX) := (by rw [← bR]; exact bO _ _ _ _); have au := ak (ah.out.set 66 (.slice uS fd.length ux)); have cC := gr cr ah J; have bY := gm bM aG J; have bC := ak (Nat.le_trans bd.out J.size); have av := gb ai bQ J; have dd := gr cZ ah J; have uO := gr uP ah J; rw [bR] at au; clear bR J ah cr bM bd ai cZ uP qo AS; rw [kS _ _ _ _ _ HL.out] at au; refine az rfl 57 (.tmp 3) rfl gX rfl _ _ _ au.out Try.underlying57 rfl 68 (by kernel_rfl) (ag _ _ _ _ _ HL.out) ?_)
    | (refine aN rfl 57 (.tmp 6) (.tmp 61) rfl gZ (aZ bm.addr bm.aff bm.slots (.slice uS fd.length ux) (.slice A2 bm.attrs.length c2)) rfl rfl 57 _ bY.out 68 (by kernel_rfl) (ag _ _ _ _ _ HL.out) rfl (b4 _ _ _ _ _ rfl rfl) ?_; intro W3 aa J; have aA := gn au aG J; have eT := gr cC bY J; have bL := ak (aa); have bU := ak (Nat.le_trans bC.out J.size); have aD := gb av bN J; have dA := gr dd bY J; have uN := gr uO bY J; clear aa J au cC bY bC av dd uO))
   refine bodyPost_ret (ik rfl _ _ gZ 57 _ (0, 0) _ rfl bL.out Try.underlying57 rfl (by simp only [List.size_toArray]; exact cg _ (ag _ _ _ _ _ HL.out))) rfl ⟨_, _, rfl, ?_, ?_, aD.out⟩
   ·rw [HBK.out]; exact ⟨HL.out, _, _, rfl, Kd.R_lower uN.out HWS.out, Kd.R_lower dA.out cn.out⟩
   ·rw [← HOO.out]; exact eT.out
set_option maxHeartbeats 16000000 in
set_option maxRecDepth 100000 in
theorem D4 (b : Bk) (hk : BkOk b) (n : Int) (hn : (b.free.length : Int) < n) (C0 : n < 9223372036854775808) (a : At) (hrt : dm b = true) (hm : eo a = true) (v : Value) (w : World) (h : fS w v b) :
  Calls Try.prog 49 #[v, .int .i64 n, ej a] w fun e w' => ∃ v' vo, e = .returned (.tuple #[v', vo, .int .i64 0]) ∧ ea w' w.heap.size v' (eV b b.free.length a) ∧ Kd.R (Kd.int .u32) 46 w' w.heap.size (fun _ => True) vo (fj b b.free.length) ∧ Below w.heap.size w w' := by
 obtain ⟨A, c, A', c', rfl, hr⟩ := h
 have hp := iw hrt
 have hsum := hp.sum_le hk hr.l64
 have HL := ak hr.l64
 have HR := ak hr
 have HK := ak hk
 have HRT := ak hrt
 have HMY := ak hm
 have HP := ak hp
 have hfl : b.free.length ≤ 64 := by omega
 have HCP := ak (mc b (by omega) (by omega))
 have ae := ak (Below.refl w.heap.size w)
 have HSUM := ak hsum
 clear hr hk hrt hm hp hsum
 have hnn : 0 ≤ n := by omega
 go_enter Try.func49, Try.ntmps49
 go_wp2_with (first
  | (refine aE rfl 57 (.tmp 0) rfl _ rfl ?_; intro gX W1 J aa I; have bQ := ge ae J; have ai := ak (ae.out.trans (I.mono ae.out.size)); have ah := ak (aa); clear J aa I ae)
  | (refine aE rfl 85 (.tmp 2) rfl _ rfl ?_; intro gA W2 J aa I; have ku := ge ai J; have eD := ne ah J; have av := mv I ai; have au := mv I ah; have cd := ak (aa); clear J aa I ai ah)
  | (refine aw (some 6) rfl rfl 57 rfl a9 bP ?_; intro gZ W3 J aa I; have bN := ge av J; have aG := ne au J; have gf := ne cd J; have aD := mv I av; have aA := mv I au; have dq := mv I cd; have bL := ak (aa); clear J aa I av au cd)
  | ((with_reducible refine ax (N := 12) rfl ?_); refine az rfl 57 (.tmp 3) rfl gX rfl _ _ _ aA.out Try.underlying57 rfl 68 (by kernel_rfl) (ag _ _ _ _ _ HL.out) ?_)
  | (go_at_call 48; refine (dH b HK.out _ _ ⟨A, c, A', c', rfl, HR.out.below aD.out⟩).mono ?_; rintro e W4 ⟨rfl, I⟩; rw [HRT.out]; have aY := mv I aD; have aV := mv I aA; have dI := mv I dq; have a8 := mv I bL; clear I aD aA dq bL)
  | ((with_reducible refine ax (N := 16) rfl ?_); refine ff (by rfl) ?_; refine az rfl 85 (.tmp 5) rfl gA rfl _ _ _ dI.out Try.underlying85 rfl 2 (by kernel_rfl) rfl ?_)
  | (go_at_call 88; refine (jB a _).mono ?_; rintro e W5 ⟨rfl, I⟩; rw [HMY.out]; have bf := mv I aY; have bb := mv I aV; have eJ := mv I dI; have bu := mv I a8; clear I aY aV dI a8)
  | ((with_reducible refine ax (N := 25) rfl ?_); refine az rfl 57 (.tmp 3) rfl gX rfl _ _ _ bb.out Try.underlying57 rfl 68 (by kernel_rfl) (ag _ _ _ _ _ HL.out) ?_)
  | (go_at_call 89; refine (HCP.out _ _ ⟨A, c, A', c', rfl, HR.out.below bf.out⟩).mono ?_; rintro e W6 ⟨v5, rfl, uj, I⟩; obtain ⟨um, vf, va, rfl, lQ, lV⟩ := uj; obtain ⟨Af, cf, rfl⟩ := Kd.R_slice lQ; obtain ⟨Aa, ca, rfl⟩ := Kd.R_slice lV; have HSZ := ak bf.out.size; have tt := ak (show gX < W5.heap.size from bb.out.lt); have nH := ak (show gA < W5.heap.size from eJ.out.lt); have nG := ak (show gZ < W5.heap.size from bu.out.lt); have bG := mv I bf; have bh := mv I bb; have fy := mv I eJ; have bS := mv I bu; have cQ := ak (lQ); have dt := ak (lV); have cY := ak (I.size); clear um lQ lV I bf bb eJ bu)
  | (refine aN rfl 57 (.tmp 3) (.tmp 26) rfl gX (aZ b.addr b.aff b.slots (.slice Af b.free.length cf) (.slice Aa b.attrs.length ca)) rfl rfl 57 _ bh.out 68 (by kernel_rfl) (ag _ _ _ _ _ HL.out) (ag _ _ _ _ _ HL.out) (b4 _ _ _ _ _ rfl rfl) ?_; intro W7 aa J; have dU := gb bG bQ J; have dj := ak (OC.stored HL.out bh.out aa cQ.out dt.out J); have kj := gx fy bh J; have dz := gm bS aG J; have eZ := gr cQ bh J; have je := gr dt bh J; have fN := ak (Nat.le_trans cY.out J.size); have mO := aa.cell 66 _ (fP _ _ _ _ _ HL.out); have LA : b.free.length ≤ cf := (Kd.R_reads' eZ.out).2.1; clear aa J bG bh fy bS cQ dt cY))
 clear mO
 obtain ⟨b1, cy⟩ : ∃ b1, b1 = W5.heap.size := ⟨_, rfl⟩
 rw [← cy] at dj eZ fN tt nH nG HSZ
 have cn := ak (show w.heap.size ≤ b1 from HSZ.out)
 clear cy HSZ
 have hmf : b.free.length ≤ b.free.length := by omega
 go_loopw [9, 11, 36] (fun o _ i W => ∃ k : Nat, k ≤ b.free.length ∧ i = .int .i64 k ∧ Aside0 (OC W b1 gX (dS b k a)) ∧ Aside0 (Kd.R (Kd.int .u32) 46 W w.heap.size (fun _ => True) o (fj b k)) ∧ Aside0 (aH W gA [.string a.f0, .string a.f1] 85) ∧ Aside0 (aH W gZ a9 57) ∧ Aside0 (Kd.R (Kd.int .u8) 5 W b1 (fun _ => True) (.slice Af b.free.length cf) b.free) ∧ Aside0 (b1 ≤ W.heap.size) ∧ Aside0 (Below w.heap.size w W)) (fun _ _ i _ => b.free.length - (intOf i).toNat)
 case atStart => exact ⟨0, by omega, rfl, dj, ⟨Kd.R_nil _ _ _ _ _⟩, kj, dz, eZ, fN, dU⟩
 case round =>
  clear dU dj kj dz eZ fN
  obtain ⟨k, hk, rfl, aJ, bF, gO, br, bw, aX, ae⟩ := hrel
  obtain ⟨W, rfl⟩ : ∃ W : World, W = wr := ⟨_, rfl⟩
  by_cases hkn : k < b.free.length
  ·have hkb : decide ((k : Int) < (b.free.length : Int)) = true := by simp; omega
   have hkf : k < b.free.length := by omega
   obtain ⟨ad, eA, hx⟩ := Kd.at_int (Kd.R_reads' bw.out).2.2 k (by omega) (by omega)
   cases eA
   rw [Int.toNat_natCast] at hx
   obtain ⟨j, hj⟩ : ∃ j : Nat, rd b.free k = (j : Int) := ⟨(rd b.free k).toNat, by have := (mP HK.out.f8 k).1; omega⟩
   have oY : j < 64 := by
    have h1 := HP.out.fr k hkf
    unfold jh at h1
    rw [Bool.or_eq_false_iff, decide_eq_false_iff_not] at h1
    have := h1.1
    omega
   rw [hj] at hx
   have HSC := ak (show dS b (k + 1) a = ⟨(dS b k a).addr, (dS b k a).aff, (dS b k a).slots.set (rd b.free k).toNat (eF (dS b k a).attrs a : Nat), (dS b k a).free, eh (dS b k a).attrs a⟩ from oI b k a hkf)
   have HSO := ak (oH b k hkf)
   rw [hj] at HSC HSO
   rw [Int.toNat_natCast] at HSC
   have hol := iF b k (by omega)
   have HOL := ak hol
   have HAL := ak (show (dS b k a).attrs.length ≤ 100 by
    have := pC b.attrs a
    have := HSUM.out
    show (if k = 0 then b.attrs else eh b.attrs a).length ≤ 100
    split <;> omega)
   obtain ⟨bm, hbm⟩ : ∃ bm, bm = dS b k a := ⟨_, rfl⟩
   have hadr : bm.addr = b.addr := by rw [hbm]; rfl
   have HADR := ak hadr
   clear hadr
   rw [← hbm] at aJ HSC HAL
   obtain ⟨oo, hoo⟩ : ∃ oo, oo = fj b k := ⟨_, rfl⟩
   obtain ⟨o1, fw⟩ : ∃ o1, o1 = fj b (k + 1) := ⟨_, rfl⟩
   rw [← hoo] at bF HSO HOL
   rw [← fw, ← HADR.out] at HSO
   have kA := ak fw
   have zk : 0 ≤ bm.addr := by rw [HADR.out]; exact HK.out.a0
   have kM : bm.addr + 64 ≤ 4294967296 := by
    rw [HADR.out]
    have h1 := HP.out.first
    have h2 := HK.out.a1
    unfold bV at h1
    omega
   clear hol hj hbm hoo fw
   obtain ⟨Ao, co, rfl⟩ := Kd.R_slice bF.out
   go_wp2_with (first
    | ((with_reducible refine ax (N := 41) rfl ?_); refine az rfl 85 (.tmp 5) rfl gA rfl _ _ _ gO.out Try.underlying85 rfl 2 (by kernel_rfl) rfl ?_)
    | (go_at_call 90; refine (pq bm HAL.out a gX b1 w.heap.size _ bQ.out cn.out aX.out aJ.out).mono ?_; rintro e W1 ⟨rfl, aW, I, cD⟩; obtain ⟨MG, LZ, MF, LY, jc, _, _⟩ := aJ.out.open; have ah := ak (aW); have cr := ak (Kd.R_added bF.out jc (by decide) cD); have jG := ak (aH.added gO.out (Ne.symm eD.out) nH.out cD); have bM := ak (aH.added br.out (Ne.symm aG.out) nG.out cD); have bp := ak (Kd.R_added bw.out jc (by decide) cD); have bd := ak (Nat.le_trans aX.out cD.1); have ai := ak (ae.out.trans I); have mO := (show OC W1 b1 gX ⟨bm.addr, bm.aff, bm.slots, bm.free, eh bm.attrs a⟩ from ah.out).slotCell j oY; have Be := ah.out.frozen (2 + j); have Bh := ah.out.addrCell; clear aW I cD jc aJ bF gO br bw aX ae)
    | ((with_reducible refine cz (b := .append) (xs := #[.tmp 45, .tmp 51]) rfl ?_); at_builtin; clear mO Be Bh; obtain ⟨_, _, _, _, jc, _, _⟩ := ah.out.open; generalize bR : W1.setCell ⟨gX, 2 + j, none⟩ (.int .u8 (eF bm.attrs a : Nat)) = W2; have lE : W1.heap.size = W2.heap.size := (by rw [← bR]; simp [World.setCell]); rw [lE]; clear lE; have J : W1.grownBy W2 (some gX) := (by rw [← bR]; exact bO _ _ _ _); have au := ak (OC.slot ah.out j oY (eF bm.attrs a : Nat)); have cC := ak (bX cr.out jc (by decide) J); have cd := gm jG eD J; have bY := gm bM aG J; have bT := ak (bX bp.out jc (by decide) J); have bC := ak (Nat.le_trans bd.out J.size); have av := gb ai bQ J; rw [bR] at au; clear bR J ah cr jG bM bp bd ai jc; refine Kd.R_append (Kd.int .u32) (w0 := w) w.heap.size rfl (.tmp 45) (.tmp 51) 77 46 (.int .u32 0) 4 rfl Try.underlying77 iL rfl (by decide) (by omega) _ oo (bm.addr + (j : Int)) [.int .u32 (bm.addr + (j : Int))] (fun _ => True) (fun _ => False) rfl rfl rfl (fun _ hk => hk.elim) (fun _ _ => trivial) cC.out av.out av.out.size (by have := HOL.out; omega) ?_; intro v_ W3 aW I J fm; rw [← HSO.out] at aW; have aA := ak (OC.row au.out cC.out (by decide) (by decide) J); have eT := ak (aW); have dq := ak (cd.out.grown J (cd.out.ne_row cC.out (by decide))); have bL := ak (bY.out.grown J (bY.out.ne_row cC.out (by decide))); have cj := ak (Kd.R_over bT.out cC.out (by decide) J); have bU := ak (Nat.le_trans bC.out J.size); have aD := ak (I); obtain ⟨AO, cO, rfl⟩ := Kd.R_slice aW; clear aW I J fm au cC cd bY bT bC av))
   go_roundw
   case rel => exact ⟨k + 1, by omega, by go_num, ⟨by rw [HSC.out]; exact aA.out⟩, ⟨by rw [← kA.out]; exact eT.out⟩, dq, bL, cj, bU, aD⟩
   case measure => simp [intOf]; omega
  ·obtain rfl : k = b.free.length := by omega
   have hkb : decide ((b.free.length : Int) < (b.free.length : Int)) = false := by simp
   have hol := iF b b.free.length (by omega)
   obtain ⟨oo, hoo⟩ : ∃ oo, oo = fj b b.free.length := ⟨_, rfl⟩
   obtain ⟨bm, hbm⟩ : ∃ bm, bm = dS b b.free.length a := ⟨_, rfl⟩
   rw [← hoo] at bF hol
   rw [← hbm] at aJ
   have HOO := ak hoo
   have hfr : bm.free = b.free := by rw [hbm]; rfl
   have HBK := ak (show eV b b.free.length a = ⟨bm.addr, bm.aff, bm.slots, bm.free.drop oo.length, bm.attrs⟩ by rw [hol, hbm]; rfl)
   obtain ⟨Ao, co, rfl⟩ := Kd.R_slice bF.out
   obtain ⟨A1, c1, A2, c2, hxx, mN, kM⟩ := aJ.out.open
   have hqa : bm.free.length ≤ c1 := (Kd.R_reads' mN).2.1
   have hqb : oo.length ≤ bm.free.length := by rw [hfr, hol]; omega
   have hqc : bm.free.length ≤ 64 := by rw [hfr]; omega
   have HQ := ak (Kd.R_reads' mN).2.2
   have j4 := ak kM
   have HXX := ak hxx
   have HL := ak aJ.out.l64
   have HWS := ak ae.out.size
   have mO := hxx.cell 66 _ (fP _ _ _ _ _ HL.out)
   have HCD := ak (fun w' (h : Kd.C (Kd.int .u8) w' A1 bm.free.length bm.free) => uv bm.free A1 c1 oo.length w' h hqb hqa (by omega) _ rfl)
   obtain ⟨fd, hfd⟩ : ∃ fd, fd = bm.free.drop oo.length := ⟨_, rfl⟩
   rw [← hfd] at HCD HBK
   clear hxx mN kM hol hoo hbm hfr hfd
   by_cases hne : c1 = oo.length
   all_goals
    first | rw [if_neg hne] at HCD | rw [if_pos hne, show c1 - oo.length = 0 by omega] at HCD
    go_wp2_with (first
     | (go_at_call 91; refine (HCD.out _ HQ.out).mono ?_; rintro e W1 ⟨Oa, rfl, di, I⟩; clear mO; obtain ⟨uS, ux, rfl⟩ := Kd.R_slice di; have ah := mv I HXX; have cr := mv I bF; have bM := mv I br; have bd := ak (Nat.le_trans aX.out I.size); have ai := ak (ae.out.trans (I.mono ae.out.size)); have cZ := mv I j4; have uP := ak (di); have qo := ah.out.cell 66 _ (fP _ _ _ _ _ HL.out); have AS := ah.out.frozen 66; clear di I HXX bF br aX ae j4)
     | (generalize bR : W1.setCell ⟨gX, 66, none⟩ (.slice uS fd.length ux) = W2; have J : W1.grownBy W2 (some gX) := (by rw [← bR]; exact bO _ _ _ _); have au := ak (ah.out.set 66 (.slice uS fd.length ux)); have cC := gr cr ah J; have bY := gm bM aG J; have bC := ak (Nat.le_trans bd.out J.size); have av := gb ai bQ J; have dd := gr cZ ah J; have uO := gr uP ah J; rw [bR] at au; clear bR J ah cr bM bd ai cZ uP qo AS; rw [kS _ _ _ _ _ HL.out] at au; refine az rfl 57 (.tmp 3) rfl gX rfl _ _ _ au.out Try.underlying57 rfl 68 (by kernel_rfl) (ag _ _ _ _ _ HL.out) ?_)
     | (refine aN rfl 57 (.tmp 6) (.tmp 61) rfl gZ (aZ bm.addr bm.aff bm.slots (.slice uS fd.length ux) (.slice A2 bm.attrs.length c2)) rfl rfl 57 _ bY.out 68 (by kernel_rfl) (ag _ _ _ _ _ HL.out) rfl (b4 _ _ _ _ _ rfl rfl) ?_; intro W3 aa J; have aA := gn au aG J; have eT := gr cC bY J; have bL := ak (aa); have bU := ak (Nat.le_trans bC.out J.size); have aD := gb av bN J; have dA := gr dd bY J; have uN := gr uO bY J; clear aa J au cC bY bC av dd uO))
    refine bodyPost_ret (ik rfl _ _ gZ 57 _ (0, 0) _ rfl bL.out Try.underlying57 rfl (by simp only [List.size_toArray]; exact cg _ (ag _ _ _ _ _ HL.out))) rfl ⟨_, _, rfl, ?_, ?_, aD.out⟩
    ·rw [HBK.out]; exact ⟨HL.out, _, _, rfl, Kd.R_lower uN.out HWS.out, Kd.R_lower dA.out cn.out⟩
    ·rw [← HOO.out]; exact eT.out
set_option maxHeartbeats 16000000 in
set_option maxRecDepth 100000 in
theorem CP (b : Bk) (hk : BkOk b)  (a : At) (hrt : dm b = true) (hm : eo a = true) (v : Value) (w : World) (h : fS w v b) :
  Calls Try.prog 49 #[v, .int .i64 (b.free.length : Int), ej a] w fun e w' => ∃ v' vo, e = .returned (.tuple #[v', vo, .int .i64 0]) ∧ ea w' w.heap.size v' (eV b b.free.length a) ∧ Kd.R (Kd.int .u32) 46 w' w.heap.size (fun _ => True) vo (fj b b.free.length) ∧ Below w.heap.size w w' := by
 obtain ⟨A, c, A', c', rfl, hr⟩ := h
 have hp := iw hrt
 have hsum := hp.sum_le hk hr.l64
 have HL := ak hr.l64
 have HR := ak hr
 have HK := ak hk
 have HRT := ak hrt
 have HMY := ak hm
 have HP := ak hp
 have hfl : b.free.length ≤ 64 := by omega
 have HCP := ak (mc b (by omega) (by omega))
 have ae := ak (Below.refl w.heap.size w)
 have HSUM := ak hsum
 clear hr hk hrt hm hp hsum
 go_enter Try.func49, Try.ntmps49
 go_wp2_with (first
  | (refine aE rfl 57 (.tmp 0) rfl _ rfl ?_; intro gX W1 J aa I; have bQ := ge ae J; have ai := ak (ae.out.trans (I.mono ae.out.size)); have ah := ak (aa); clear J aa I ae)
  | (refine aE rfl 85 (.tmp 2) rfl _ rfl ?_; intro gA W2 J aa I; have ku := ge ai J; have eD := ne ah J; have av := mv I ai; have au := mv I ah; have cd := ak (aa); clear J aa I ai ah)
  | (refine aw (some 6) rfl rfl 57 rfl a9 bP ?_; intro gZ W3 J aa I; have bN := ge av J; have aG := ne au J; have gf := ne cd J; have aD := mv I av; have aA := mv I au; have dq := mv I cd; have bL := ak (aa); clear J aa I av au cd)
  | ((with_reducible refine ax (N := 12) rfl ?_); refine az rfl 57 (.tmp 3) rfl gX rfl _ _ _ aA.out Try.underlying57 rfl 68 (by kernel_rfl) (ag _ _ _ _ _ HL.out) ?_)
  | (go_at_call 48; refine (dH b HK.out _ _ ⟨A, c, A', c', rfl, HR.out.below aD.out⟩).mono ?_; rintro e W4 ⟨rfl, I⟩; rw [HRT.out]; have aY := mv I aD; have aV := mv I aA; have dI := mv I dq; have a8 := mv I bL; clear I aD aA dq bL)
  | ((with_reducible refine ax (N := 16) rfl ?_); refine ff (by rfl) ?_; refine az rfl 85 (.tmp 5) rfl gA rfl _ _ _ dI.out Try.underlying85 rfl 2 (by kernel_rfl) rfl ?_)
  | (go_at_call 88; refine (jB a _).mono ?_; rintro e W5 ⟨rfl, I⟩; rw [HMY.out]; have bf := mv I aY; have bb := mv I aV; have eJ := mv I dI; have bu := mv I a8; clear I aY aV dI a8)
  | ((with_reducible refine ax (N := 25) rfl ?_); refine az rfl 57 (.tmp 3) rfl gX rfl _ _ _ bb.out Try.underlying57 rfl 68 (by kernel_rfl) (ag _ _ _ _ _ HL.out) ?_)
  | (go_at_call 89; refine (HCP.out _ _ ⟨A, c, A', c', rfl, HR.out.below bf.out⟩).mono ?_; rintro e W6 ⟨v5, rfl, uj, I⟩; obtain ⟨um, vf, va, rfl, lQ, lV⟩ := uj; obtain ⟨Af, cf, rfl⟩ := Kd.R_slice lQ; obtain ⟨Aa, ca, rfl⟩ := Kd.R_slice lV; have HSZ := ak bf.out.size; have tt := ak (show gX < W5.heap.size from bb.out.lt); have nH := ak (show gA < W5.heap.size from eJ.out.lt); have nG := ak (show gZ < W5.heap.size from bu.out.lt); have bG := mv I bf; have bh := mv I bb; have fy := mv I eJ; have bS := mv I bu; have cQ := ak (lQ); have dt := ak (lV); have cY := ak (I.size); clear um lQ lV I bf bb eJ bu)
  | (refine aN rfl 57 (.tmp 3) (.tmp 26) rfl gX (aZ b.addr b.aff b.slots (.slice Af b.free.length cf) (.slice Aa b.attrs.length ca)) rfl rfl 57 _ bh.out 68 (by kernel_rfl) (ag _ _ _ _ _ HL.out) (ag _ _ _ _ _ HL.out) (b4 _ _ _ _ _ rfl rfl) ?_; intro W7 aa J; have dU := gb bG bQ J; have dj := ak (OC.stored HL.out bh.out aa cQ.out dt.out J); have kj := gx fy bh J; have dz := gm bS aG J; have eZ := gr cQ bh J; have je := gr dt bh J; have fN := ak (Nat.le_trans cY.out J.size); have mO := aa.cell 66 _ (fP _ _ _ _ _ HL.out); have LA : b.free.length ≤ cf := (Kd.R_reads' eZ.out).2.1; clear aa J bG bh fy bS cQ dt cY))
 clear mO
 obtain ⟨b1, cy⟩ : ∃ b1, b1 = W5.heap.size := ⟨_, rfl⟩
 rw [← cy] at dj eZ fN tt nH nG HSZ
 have cn := ak (show w.heap.size ≤ b1 from HSZ.out)
 clear cy HSZ
 have hmf : b.free.length ≤ b.free.length := by omega
 go_loopw [9, 11, 36] (fun o _ i W => ∃ k : Nat, k ≤ b.free.length ∧ i = .int .i64 k ∧ Aside0 (OC W b1 gX (dS b k a)) ∧ Aside0 (Kd.R (Kd.int .u32) 46 W w.heap.size (fun _ => True) o (fj b k)) ∧ Aside0 (aH W gA [.string a.f0, .string a.f1] 85) ∧ Aside0 (aH W gZ a9 57) ∧ Aside0 (Kd.R (Kd.int .u8) 5 W b1 (fun _ => True) (.slice Af b.free.length cf) b.free) ∧ Aside0 (b1 ≤ W.heap.size) ∧ Aside0 (Below w.heap.size w W)) (fun _ _ i _ => b.free.length - (intOf i).toNat)
 case atStart => exact ⟨0, by omega, rfl, dj, ⟨Kd.R_nil _ _ _ _ _⟩, kj, dz, eZ, fN, dU⟩
 case round =>
  clear dU dj kj dz eZ fN
  obtain ⟨k, hk, rfl, aJ, bF, gO, br, bw, aX, ae⟩ := hrel
  obtain ⟨W, rfl⟩ : ∃ W : World, W = wr := ⟨_, rfl⟩
  by_cases hkn : k < b.free.length
  ·have hkb : decide ((k : Int) < (b.free.length : Int)) = true := by simp; omega
   have hkf : k < b.free.length := by omega
   obtain ⟨ad, eA, hx⟩ := Kd.at_int (Kd.R_reads' bw.out).2.2 k (by omega) (by omega)
   cases eA
   rw [Int.toNat_natCast] at hx
   obtain ⟨j, hj⟩ : ∃ j : Nat, rd b.free k = (j : Int) := ⟨(rd b.free k).toNat, by have := (mP HK.out.f8 k).1; omega⟩
   have oY : j < 64 := by
    have h1 := HP.out.fr k hkf
    unfold jh at h1
    rw [Bool.or_eq_false_iff, decide_eq_false_iff_not] at h1
    have := h1.1
    omega
   rw [hj] at hx
   have HSC := ak (show dS b (k + 1) a = ⟨(dS b k a).addr, (dS b k a).aff, (dS b k a).slots.set (rd b.free k).toNat (eF (dS b k a).attrs a : Nat), (dS b k a).free, eh (dS b k a).attrs a⟩ from oI b k a hkf)
   have HSO := ak (oH b k hkf)
   rw [hj] at HSC HSO
   rw [Int.toNat_natCast] at HSC
   have hol := iF b k (by omega)
   have HOL := ak hol
   have HAL := ak (show (dS b k a).attrs.length ≤ 100 by
    have := pC b.attrs a
    have := HSUM.out
    show (if k = 0 then b.attrs else eh b.attrs a).length ≤ 100
    split <;> omega)
   obtain ⟨bm, hbm⟩ : ∃ bm, bm = dS b k a := ⟨_, rfl⟩
   have hadr : bm.addr = b.addr := by rw [hbm]; rfl
   have HADR := ak hadr
   clear hadr
   rw [← hbm] at aJ HSC HAL
   obtain ⟨oo, hoo⟩ : ∃ oo, oo = fj b k := ⟨_, rfl⟩
   obtain ⟨o1, fw⟩ : ∃ o1, o1 = fj b (k + 1) := ⟨_, rfl⟩
   rw [← hoo] at bF HSO HOL
   rw [← fw, ← HADR.out] at HSO
   have kA := ak fw
   have zk : 0 ≤ bm.addr := by rw [HADR.out]; exact HK.out.a0
   have kM : bm.addr + 64 ≤ 4294967296 := by
    rw [HADR.out]
    have h1 := HP.out.first
    have h2 := HK.out.a1
    unfold bV at h1
    omega
   clear hol hj hbm hoo fw
   obtain ⟨Ao, co, rfl⟩ := Kd.R_slice bF.out
   go_wp2_with (first
    | ((with_reducible refine ax (N := 41) rfl ?_); refine az rfl 85 (.tmp 5) rfl gA rfl _ _ _ gO.out Try.underlying85 rfl 2 (by kernel_rfl) rfl ?_)
    | (go_at_call 90; refine (pq bm HAL.out a gX b1 w.heap.size _ bQ.out cn.out aX.out aJ.out).mono ?_; rintro e W1 ⟨rfl, aW, I, cD⟩; obtain ⟨MG, LZ, MF, LY, jc, _, _⟩ := aJ.out.open; have ah := ak (aW); have cr := ak (Kd.R_added bF.out jc (by decide) cD); have jG := ak (aH.added gO.out (Ne.symm eD.out) nH.out cD); have bM := ak (aH.added br.out (Ne.symm aG.out) nG.out cD); have bp := ak (Kd.R_added bw.out jc (by decide) cD); have bd := ak (Nat.le_trans aX.out cD.1); have ai := ak (ae.out.trans I); have mO := (show OC W1 b1 gX ⟨bm.addr, bm.aff, bm.slots, bm.free, eh bm.attrs a⟩ from ah.out).slotCell j oY; have Be := ah.out.frozen (2 + j); have Bh := ah.out.addrCell; clear aW I cD jc aJ bF gO br bw aX ae)
    | ((with_reducible refine cz (b := .append) (xs := #[.tmp 45, .tmp 51]) rfl ?_); at_builtin; clear mO Be Bh; obtain ⟨_, _, _, _, jc, _, _⟩ := ah.out.open; generalize bR : W1.setCell ⟨gX, 2 + j, none⟩ (.int .u8 (eF bm.attrs a : Nat)) = W2; have lE : W1.heap.size = W2.heap.size := (by rw [← bR]; simp [World.setCell]); rw [lE]; clear lE; have J : W1.grownBy W2 (some gX) := (by rw [← bR]; exact bO _ _ _ _); have au := ak (OC.slot ah.out j oY (eF bm.attrs a : Nat)); have cC := ak (bX cr.out jc (by decide) J); have cd := gm jG eD J; have bY := gm bM aG J; have bT := ak (bX bp.out jc (by decide) J); have bC := ak (Nat.le_trans bd.out J.size); have av := gb ai bQ J; rw [bR] at au; clear bR J ah cr jG bM bp bd ai jc; refine Kd.R_append (Kd.int .u32) (w0 := w) w.heap.size rfl (.tmp 45) (.tmp 51) 77 46 (.int .u32 0) 4 rfl Try.underlying77 iL rfl (by decide) (by omega) _ oo (bm.addr + (j : Int)) [.int .u32 (bm.addr + (j : Int))] (fun _ => True) (fun _ => False) rfl rfl rfl (fun _ hk => hk.elim) (fun _ _ => trivial) cC.out av.out av.out.size (by have := HOL.out; omega) ?_; intro v_ W3 aW I J fm; rw [← HSO.out] at aW; have aA := ak (OC.row au.out cC.out (by decide) (by decide) J); have eT := ak (aW); have dq := ak (cd.out.grown J (cd.out.ne_row cC.out (by decide))); have bL := ak (bY.out.grown J (bY.out.ne_row cC.out (by decide))); have cj := ak (Kd.R_over bT.out cC.out (by decide) J); have bU := ak (Nat.le_trans bC.out J.size); have aD := ak (I); obtain ⟨AO, cO, rfl⟩ := Kd.R_slice aW; clear aW I J fm au cC cd bY bT bC av))
   go_roundw
   case rel => exact ⟨k + 1, by omega, by go_num, ⟨by rw [HSC.out]; exact aA.out⟩, ⟨by rw [← kA.out]; exact eT.out⟩, dq, bL, cj, bU, aD⟩
   case measure => simp [intOf]; omega
  ·obtain rfl : k = b.free.length := by omega
   have hkb : decide ((b.free.length : Int) < (b.free.length : Int)) = false := by simp
   have hol := iF b b.free.length (by omega)
   obtain ⟨oo, hoo⟩ : ∃ oo, oo = fj b b.free.length := ⟨_, rfl⟩
   obtain ⟨bm, hbm⟩ : ∃ bm, bm = dS b b.free.length a := ⟨_, rfl⟩
   rw [← hoo] at bF hol
   rw [← hbm] at aJ
   have HOO := ak hoo
   have hfr : bm.free = b.free := by rw [hbm]; rfl
   have HBK := ak (show eV b b.free.length a = ⟨bm.addr, bm.aff, bm.slots, bm.free.drop oo.length, bm.attrs⟩ by rw [hol, hbm]; rfl)
   obtain ⟨Ao, co, rfl⟩ := Kd.R_slice bF.out
   obtain ⟨A1, c1, A2, c2, hxx, mN, kM⟩ := aJ.out.open
   have hqa : bm.free.length ≤ c1 := (Kd.R_reads' mN).2.1
   have hqb : oo.length ≤ bm.free.length := by rw [hfr, hol]; omega
   have hqc : bm.free.length ≤ 64 := by rw [hfr]; omega
   have HQ := ak (Kd.R_reads' mN).2.2
   have j4 := ak kM
   have HXX := ak hxx
   have HL := ak aJ.out.l64
   have HWS := ak ae.out.size
   have mO := hxx.cell 66 _ (fP _ _ _ _ _ HL.out)
   have HCD := ak (fun w' (h : Kd.C (Kd.int .u8) w' A1 bm.free.length bm.free) => uv bm.free A1 c1 oo.length w' h hqb hqa (by omega) _ rfl)
   obtain ⟨fd, hfd⟩ : ∃ fd, fd = bm.free.drop oo.length := ⟨_, rfl⟩
   rw [← hfd] at HCD HBK
   clear hxx mN kM hol hoo hbm hfr hfd
   by_cases hne : c1 = oo.length
   all_goals
    first | rw [if_neg hne] at HCD | rw [if_pos hne, show c1 - oo.length = 0 by omega] at HCD
    go_wp2_with (first
     | (go_at_call 91; refine (HCD.out _ HQ.out).mono ?_; rintro e W1 ⟨Oa, rfl, di, I⟩; clear mO; obtain ⟨uS, ux, rfl⟩ := Kd.R_slice di; have ah := mv I HXX; have cr := mv I bF; have bM := mv I br; have bd := ak (Nat.le_trans aX.out I.size); have ai := ak (ae.out.trans (I.mono ae.out.size)); have cZ := mv I j4; have uP := ak (di); have qo := ah.out.cell 66 _ (fP _ _ _ _ _ HL.out); have AS := ah.out.frozen 66; clear di I HXX bF br aX ae j4)
     | (generalize bR : W1.setCell ⟨gX, 66, none⟩ (.slice uS fd.length ux) = W2; have J : W1.grownBy W2 (some gX) := (by rw [← bR]; exact bO _ _ _ _); have au := ak (ah.out.set 66 (.slice uS fd.length ux)); have cC := gr cr ah J; have bY := gm bM aG J; have bC := ak (Nat.le_trans bd.out J.size); have av := gb ai bQ J; have dd := gr cZ ah J; have uO := gr uP ah J; rw [bR] at au; clear bR J ah cr bM bd ai cZ uP qo AS; rw [kS _ _ _ _ _ HL.out] at au; refine az rfl 57 (.tmp 3) rfl gX rfl _ _ _ au.out Try.underlying57 rfl 68 (by kernel_rfl) (ag _ _ _ _ _ HL.out) ?_)
     | (refine aN rfl 57 (.tmp 6) (.tmp 61) rfl gZ (aZ bm.addr bm.aff bm.slots (.slice uS fd.length ux) (.slice A2 bm.attrs.length c2)) rfl rfl 57 _ bY.out 68 (by kernel_rfl) (ag _ _ _ _ _ HL.out) rfl (b4 _ _ _ _ _ rfl rfl) ?_; intro W3 aa J; have aA := gn au aG J; have eT := gr cC bY J; have bL := ak (aa); have bU := ak (Nat.le_trans bC.out J.size); have aD := gb av bN J; have dA := gr dd bY J; have uN := gr uO bY J; clear aa J au cC bY bC av dd uO))
    refine bodyPost_ret (ik rfl _ _ gZ 57 _ (0, 0) _ rfl bL.out Try.underlying57 rfl (by simp only [List.size_toArray]; exact cg _ (ag _ _ _ _ _ HL.out))) rfl ⟨_, _, rfl, ?_, ?_, aD.out⟩
    ·rw [HBK.out]; exact ⟨HL.out, _, _, rfl, Kd.R_lower uN.out HWS.out, Kd.R_lower dA.out cn.out⟩
    ·rw [← HOO.out]; exact eT.out
theorem pB (b : Bk) (hk : BkOk b) (n : Int) (hn : n < 9223372036854775808) (a : At) (v : Value) (w : World) (h : fS w v b) :
  Calls Try.prog 49 #[v, .int .i64 n, ej a] w fun e w' => ∃ v' vo, e = .returned (.tuple #[v', vo, .int .i64 (if lH b n a = true then 0 else 1)]) ∧ ea w' w.heap.size v' (if lH b n a = true then eV b (min n.toNat b.free.length) a else jP) ∧ Kd.R (Kd.int .u32) 46 w' w.heap.size (fun _ => True) vo (if lH b n a = true then fj b (min n.toNat b.free.length) else []) ∧ Below w.heap.size w w' := by
 cases ho : lH b n a with
 | false =>
  simp only [Bool.false_eq_true, if_false]
  exact Fw b hk n a ho v w h
 | true =>
  simp only [if_true]
  unfold lH at ho
  simp only [Bool.and_eq_true, decide_eq_true_eq] at ho
  obtain ⟨h1, h2, h3⟩ := ho
  by_cases hl : (b.free.length : Int) ≤ n
  ·rw [show min n.toNat b.free.length = b.free.length by omega]
   by_cases RY : (b.free.length : Int) < n
   ·exact D4 b hk n RY hn a h1 h2 v w h
   ·obtain rfl : n = (b.free.length : Int) := by omega
    exact CP b hk a h1 h2 v w h
  ·obtain ⟨m, rfl⟩ : ∃ m : Nat, n = (m : Int) := ⟨n.toNat, by omega⟩
   rw [show min (m : Int).toNat b.free.length = m by omega]
   exact CO b hk m (by omega) a h1 h2 v w h
end Go.Proofs.Ytemhalnhbgkbcaa.V
end

section
namespace Go.Proofs.Ytemhalnhbgkbcaa.V
theorem Fz (ad : Addr) : ad.add 0 = ad := by
 obtain ⟨b, o, s⟩ := ad
 unfold Addr.add
 split <;> simp_all
theorem jd.of {W : World} {b1 : Nat} {b : Bk} {M : List kz} {As Af Aa : Option Addr} {cs cf ca : Nat} (hm : M = b.attrs.map vc) (hs : Kd.R (Kd.int .i64) 3 W b1 (fun _ => True) (.slice As b.slots.length cs) b.slots) (hf : Kd.R (Kd.int .i64) 3 W b1 (fun _ => True) (.slice Af b.free.length cf) b.free) (ha : Kd.R g8 76 W b1 (fun _ => True) (.slice Aa M.length ca) M) :
  RbR W b M As cs Af cf Aa ca := ⟨hm, (Kd.R_reads' hs).2.2, (Kd.R_reads' hs).2.1, (Kd.R_reads' hf).2.2, (Kd.R_reads' hf).2.1, (Kd.R_reads' ha).2.2, (Kd.R_reads' ha).2.1⟩
set_option maxHeartbeats 16000000 in
set_option maxRecDepth 100000 in
theorem zC (b : Bk) (hl : b.slots.length = 64) (hf : b.free.length ≤ 1000) (ha : b.attrs.length ≤ 100) (hnd : vL b.attrs) (x : Int) (h0 : 0 ≤ x) (h1 : x < 4294967296) (a : At) (v : Value) (w : World) (h : jd w v b) :
  Calls Try.prog 107 #[v, .int .u32 x, .agg #[.string a.f0, .string a.f1]] w fun e w' => ∃ v', e = .returned v' ∧ eG w' w.heap.size v' (fG b (x % 64).toNat a) ∧ Below w.heap.size w w' := by
 obtain ⟨M, As, cs, Af, cf, Aa, ca, rfl, hr⟩ := h
 obtain ⟨j, hj⟩ : ∃ j : Nat, x % 64 = (j : Int) := ⟨(x % 64).toNat, by omega⟩
 have oY : j < 64 := by omega
 have HR := ak hr
 have HGV := ak (fun v w h => Bn b hl hf ha hnd j oY a v w h)
 have HJ := ak (show x.tmod 64 = (j : Int) by rw [Int.tmod_eq_emod_of_nonneg h0]; exact hj)
 have zt := ak (show (x % 64).toNat = j by rw [hj]; rfl)
 have ae := ak (Below.refl w.heap.size w)
 have hjt := HJ.out
 clear hr hl hj hnd
 go_enter Try.func107, Try.ntmps107
 go_wp2_with (first
  | (refine aE rfl 62 (.tmp 0) rfl _ rfl ?_; intro gX W1 J aa I; have bQ := ge ae J; have ai := ak (ae.out.trans (I.mono ae.out.size)); have ah := ak (aa); clear J aa I ae)
  | (refine aE rfl 76 (.tmp 2) rfl _ rfl ?_; intro gA W2 J aa I; have ku := ge ai J; have eD := ne ah J; have av := mv I ai; have au := mv I ah; have cd := ak (aa); clear J aa I ai ah)
  | (refine aw (some 6) rfl rfl 62 rfl dG (fun _ => by kernel_rfl) ?_; intro gZ W3 J aa I; have bN := ge av J; have aG := ne au J; have gf := ne cd J; have aD := mv I av; have aA := mv I au; have dq := mv I cd; have bL := ak (aa); clear J aa I av au cd)
  | ((with_reducible refine ax (N := 7) rfl ?_); refine az rfl 62 (.tmp 3) rfl gX rfl _ _ _ aA.out Try.underlying62 rfl 5 (by kernel_rfl) rfl ?_)
  | ((with_reducible refine ax (N := 11) rfl ?_); refine az rfl 76 (.tmp 5) rfl gA rfl _ _ _ dq.out Try.underlying76 rfl 2 (by kernel_rfl) rfl ?_)
  | (go_at_call 106; refine (HGV.out _ _ ⟨M, As, cs, Af, cf, Aa, ca, rfl, HR.out.below aD.out⟩).mono ?_; rintro e W4 ⟨v9, rfl, fC, I⟩; obtain ⟨nb, hnb⟩ : ∃ nb, nb = fG b j a := ⟨_, rfl⟩; rw [← hnb] at fC; have HNB := ak hnb; obtain ⟨tT, qE, qF, rfl, fZ, fb, ep⟩ := fC; have HSZ := ak aD.out.size; obtain ⟨A7, c7, rfl⟩ := Kd.R_slice fZ; obtain ⟨A8, c8, rfl⟩ := Kd.R_slice fb; obtain ⟨NM, hNM⟩ : ∃ NM, NM = nb.attrs.map vc := ⟨_, rfl⟩; rw [← hNM] at ep; have HNM := ak hNM; obtain ⟨A9, c9, rfl⟩ := Kd.R_slice ep; have aY := mv I aD; have aV := mv I aA; have dI := mv I dq; have a8 := mv I bL; have cx := ak (fZ); have ch := ak (fb); have cR := ak (ep); clear hNM hnb fZ fb ep I aD aA dq bL)
  | (refine aN rfl 62 (.tmp 6) (.tmp 12) rfl gZ (da nb.addr nb.aff (.slice A7 nb.slots.length c7) (.slice A8 nb.free.length c8) (.slice A9 NM.length c9)) rfl rfl 62 _ a8.out 5 (by kernel_rfl) rfl rfl (dJ _ _ rfl rfl rfl) ?_; intro W5 aa J; have bf := gb aY bN J; have bb := gn aV aG J; have eJ := gx dI a8 J; have bu := ak (aa); have cJ := gr cx a8 J; have cb := gr ch a8 J; have cG := gr cR a8 J; clear aa J aY aV dI a8 cx ch cR))
 refine bodyPost_ret (results_cell_row rfl _ _ gZ 62 _ (0, 0) _ rfl bu.out Try.underlying62 rfl (by kernel_rfl)) rfl ⟨_, rfl, ?_, bf.out⟩
 rw [zt.out, ← HNB.out]
 exact ⟨_, _, _, rfl, Kd.R_lower cJ.out HSZ.out, Kd.R_lower cb.out HSZ.out, by rw [← HNM.out]; exact Kd.R_lower cG.out HSZ.out⟩
set_option maxHeartbeats 16000000 in
set_option maxRecDepth 100000 in
theorem Cz (b : Bk) (hk : BkOk b) (hp : RightP b) (hl : b.slots.length = 64) (n : Int) (hn : n < 9223372036854775808) (lP : 0 ≤ n) (m : Nat) (hm : m = min n.toNat b.free.length) (a : At) (v : Value) (w : World) (base : Nat) (lU : base ≤ w.heap.size) (h : eG w base v b) :
  Calls Try.prog 82 #[v, .int .i64 n, .agg #[.string a.f0, .string a.f1]] w fun e w' => ∃ v' vo, e = .returned (.tuple #[v', vo]) ∧ eG w' base v' (eV b m a) ∧ Kd.R (Kd.int .u32) 46 w' w.heap.size (fun _ => True) vo (fj b m) ∧ Below w.heap.size w w' := by
 obtain ⟨vs0, Ud, Ue, rfl, mM, Bc, DT⟩ := h
 obtain ⟨M, hM⟩ : ∃ M, M = b.attrs.map vc := ⟨_, rfl⟩
 rw [← hM] at DT
 obtain ⟨As, cs, rfl⟩ := Kd.R_slice mM
 obtain ⟨Af, cf, rfl⟩ := Kd.R_slice Bc
 obtain ⟨Aa, ca, rfl⟩ := Kd.R_slice DT
 have SP := ak mM
 have S6 := ak Bc
 have Td := ak DT
 have HMM := ak hM
 have HBW := ak lU
 have hsum := hp.sum_le hk hl
 have HK := ak hk
 have HP := ak hp
 have HL := ak hl
 have HSUM := ak hsum
 have HMN := ak (show (m : Int) ≤ n ∧ m ≤ b.free.length ∧ ((m : Int) = n ∨ m = b.free.length) by omega)
 have TT : m ≤ 64 := by omega
 have zk : 0 ≤ b.addr := hk.a0
 have kM : b.addr + 64 ≤ 4294967296 := by
  have h1 := hp.first
  have h2 := hk.a1
  unfold bV at h1
  omega
 have ae := ak (Below.refl w.heap.size w)
 clear mM Bc DT hM lU hk hp hl hsum hm
 go_enter Try.func82, Try.ntmps82
 go_wp2_with (first
  | (refine aE rfl 62 (.tmp 0) rfl _ rfl ?_; intro gX W1 J aa I; have bQ := ge ae J; have ai := ak (ae.out.trans (I.mono ae.out.size)); have ah := ak (aa); clear J aa I ae)
  | (refine aE rfl 76 (.tmp 2) rfl _ rfl ?_; intro gA W2 J aa I; have ku := ge ai J; have eD := ne ah J; have av := mv I ai; have au := mv I ah; have cd := ak (aa); clear J aa I ai ah)
  | (refine aw (some 6) rfl rfl 62 rfl dG (fun _ => by kernel_rfl) ?_; intro gZ W3 J aa I; have bN := ge av J; have aG := ne au J; have gf := ne cd J; have aD := mv I av; have aA := mv I au; have dq := mv I cd; have bL := ak (aa); clear J aa I av au cd))
 go_loopw [8, 9, 10] (fun q u _ W => ∃ k : Nat, k ≤ m ∧ u = .int .i64 k ∧ Aside0 (RX W base gX (eV b k a)) ∧ Aside0 (Kd.R (Kd.int .u32) 46 W w.heap.size (fun _ => True) q (fj b k)) ∧ Aside0 (aH W gA [.string a.f0, .string a.f1] 76) ∧ Aside0 (aH W gZ dG 62) ∧ Aside0 (Below w.heap.size w W)) (fun _ u _ _ => m - (intOf u).toNat)
 case atStart => exact ⟨0, by omega, rfl, ⟨⟨M, _, _, _, HMM.out, aA.out, Kd.R_below SP.out aD.out, Kd.R_below S6.out aD.out, Kd.R_below Td.out aD.out⟩⟩, ⟨Kd.R_nil _ _ _ _ _⟩, dq, bL, aD⟩
 case round =>
  clear aD aA dq bL
  obtain ⟨k, hk, rfl, aJ, bF, gO, br, ae⟩ := hrel
  obtain ⟨W, rfl⟩ : ∃ W : World, W = wr := ⟨_, rfl⟩
  have hmn := HMN.out
  have hsum := HSUM.out
  have hszs := Fx b k a
  rw [HL.out] at hszs
  obtain ⟨M2, A2, c2, A3, c3, A4, c4, sS, Hd, He, Hk, Ho⟩ := aJ.out.open
  have HRR := ak (jd.of sS He Hk Ho)
  have hrr : M2 = (eV b k a).attrs.map vc ∧ Kd.R (Kd.int .i64) 3 W base (fun _ => True) (.slice A2 (eV b k a).slots.length c2) (eV b k a).slots ∧ Kd.R (Kd.int .i64) 3 W base (fun _ => True) (.slice A3 (eV b k a).free.length c3) (eV b k a).free ∧ Kd.R g8 76 W base (fun _ => True) (.slice A4 M2.length c4) M2 := ⟨sS, He, Hk, Ho⟩
  have gl := ak Hd
  obtain ⟨Ao, co, rfl⟩ := Kd.R_slice bF.out
  have hol := iF b k (by omega)
  obtain ⟨oo, hoo⟩ : ∃ oo, oo = fj b k := ⟨_, rfl⟩
  rw [← hoo] at bF hol
  rw [show (fj b k).length = oo.length by rw [hoo]]
  have HOL := ak hol
  have HOO := ak hoo
  clear hoo
  by_cases hkm : k < m
  ·have hkf : k < b.free.length := by omega
   have hgv := Bm HP.out HK.out k hkf a
   have hfr := Cb b k a hkf
   have hmem := ov HP.out HK.out k hkf
   obtain ⟨j, hj⟩ : ∃ j : Nat, rd b.free k = (j : Int) := ⟨(rd b.free k).toNat, by omega⟩
   have hnd := L3 (show vL b.attrs from HP.out.nd) k a
   rw [hj] at hgv hfr hmem
   rw [Int.toNat_natCast] at hgv
   have hos := oH b k hkf
   rw [hj, ← HOO.out] at hos
   have HGV := ak (fun v w h => Bn (eV b k a) hszs.1 (by omega) (by omega) hnd j (by omega) a v w h)
   have hkn : decide ((k : Int) < n) = true := by simp; omega
   obtain ⟨bm, hbm⟩ : ∃ bm, bm = eV b k a := ⟨_, rfl⟩
   have hadr : bm.addr = b.addr := by rw [hbm]; rfl
   rw [← hbm] at gl HRR HGV hfr hgv
   have Bc : 0 < bm.free.length := hfr.1
   have p0 : decide ((0 : Int) < (bm.free.length : Int)) = true := by simp; omega
   have p1 : ((0 : Int) < (bm.free.length : Int)) = True := eq_true (by omega)
   obtain ⟨ad, eA, hx⟩ := Kd.at_int HRR.out.fr 0 (by omega) (by omega)
   cases eA
   rw [show (0 : Int).toNat = 0 from rfl, hfr.2] at hx
   have RV : W.cell? ad = some (.int .i64 (j : Int)) := by rwa [Fz] at hx
   have mW : j < 64 := by omega
   have lU : 0 ≤ bm.addr := by rw [hadr]; exact zk
   have cy : bm.addr + 64 ≤ 4294967296 := by rw [hadr]; exact kM
   obtain ⟨o1, fw⟩ : ∃ o1, o1 = fj b (k + 1) := ⟨_, rfl⟩
   rw [← fw, ← hadr] at hos
   have kA := ak fw
   have HOS := ak hos
   have HGB := ak hgv
   have ot := gl.out.cell 3 _ rfl
   clear hgv hfr hmem hj hnd hos hszs hbm Hd hrr sS He Hk Ho hadr fw hol hmn hsum aJ
   go_wp2_with (first
    | ((with_reducible refine ax (N := 26) rfl ?_); refine az rfl 62 (.tmp 3) rfl gX rfl _ _ _ gl.out Try.underlying62 rfl 5 (by kernel_rfl) rfl ?_)
    | ((with_reducible refine ax (N := 28) rfl ?_); refine az rfl 76 (.tmp 5) rfl gA rfl _ _ _ gO.out Try.underlying76 rfl 2 (by kernel_rfl) rfl ?_)
    | (go_at_call 106; refine (HGV.out _ _ ⟨M2, A2, c2, some ad, c3, A4, c4, rfl, HRR.out⟩).mono ?_; rintro e W1 ⟨v9, rfl, fC, I⟩; rw [HGB.out] at fC; obtain ⟨nb, hnb⟩ : ∃ nb, nb = eV b (k + 1) a := ⟨_, rfl⟩; rw [← hnb] at fC; have HNB := ak hnb; have HNA := ak (show nb.addr = bm.addr by rw [hnb, ← HGB.out]; rfl); obtain ⟨tT, qE, qF, rfl, fZ, fb, ep⟩ := fC; have HSZ := ak (lb HBW ae); obtain ⟨A7, c7, rfl⟩ := Kd.R_slice fZ; obtain ⟨A8, c8, rfl⟩ := Kd.R_slice fb; obtain ⟨NM, hNM⟩ : ∃ NM, NM = nb.attrs.map vc := ⟨_, rfl⟩; rw [← hNM] at ep; have HNM := ak hNM; obtain ⟨A9, c9, rfl⟩ := Kd.R_slice ep; have ah := mv I gl; have cr := mv I bF; have jG := mv I gO; have bM := mv I br; have ai := ak (ae.out.trans (I.mono ae.out.size)); have bd := ak (fZ); have bp := ak (fb); have bH := ak (ep); clear hNM hnb fZ fb ep I gl bF gO br ae ot hx RV)
    | (refine aN rfl 62 (.tmp 3) (.tmp 29) rfl gX (da nb.addr nb.aff (.slice A7 nb.slots.length c7) (.slice A8 nb.free.length c8) (.slice A9 NM.length c9)) rfl rfl 62 _ ah.out 5 (by kernel_rfl) rfl rfl (dJ _ _ rfl rfl rfl) ?_; intro W2 aa J; have au := ak (aa); have cC := gr cr ah J; have cd := gx jG ah J; have bY := gm bM aG J; have av := gb ai bQ J; have bC := gr bd ah J; have bT := gr bp ah J; have b9 := gr bH ah J; have ke := (show W2.cell? ⟨gX, 0, none⟩ = some (.int .u32 bm.addr) from by rw [← HNA.out]; exact aa.cell 0 _ rfl); clear aa J ah cr jG bM ai bd bp bH)
    | ((with_reducible refine cz (b := .append) (xs := #[.tmp 30, .tmp 36]) rfl ?_); at_builtin; refine Kd.R_append (Kd.int .u32) (w0 := w) w.heap.size rfl (.tmp 30) (.tmp 36) 77 46 (.int .u32 0) 4 rfl Try.underlying77 iL rfl (by decide) (by omega) _ oo (bm.addr + (j : Int)) [.int .u32 (bm.addr + (j : Int))] (fun _ => True) (fun _ => False) rfl rfl rfl (fun _ hk => hk.elim) (fun _ _ => trivial) cC.out av.out av.out.size (by have := HOL.out; omega) ?_; intro v_ W3 aW I J fm; rw [← HOS.out] at aW; have aA := ak (au.out.grown J (au.out.ne_row cC.out (by decide))); have eT := ak (aW); have dq := ak (cd.out.grown J (cd.out.ne_row cC.out (by decide))); have bL := ak (bY.out.grown J (bY.out.ne_row cC.out (by decide))); have aD := ak (I); have bU := ak (Kd.R_over bC.out cC.out (by decide) J); have cj := ak (Kd.R_over bT.out cC.out (by decide) J); have cN := ak (Kd.R_over b9.out cC.out (by decide) J); obtain ⟨AO, cO, rfl⟩ := Kd.R_slice aW; clear aW I J fm au cC cd bY av bC bT b9 ke))
   go_roundw
   case rel => exact ⟨k + 1, by omega, by go_num, ⟨by rw [← HNB.out]; exact ⟨_, _, _, _, HNM.out, aA.out, Kd.R_lower bU.out HSZ.out, Kd.R_lower cj.out HSZ.out, Kd.R_lower cN.out HSZ.out⟩⟩, ⟨by rw [← kA.out]; exact eT.out⟩, dq, bL, aD⟩
   case measure => simp [intOf]; omega
  ·obtain rfl : k = m := by omega
   have hend : decide ((k : Int) < n) = false ∨ decide ((k : Int) < n) = true ∧ decide (0 < (eV b k a).free.length) = false := by
    rcases hmn.2.2 with h_ | h_
    ·left; simp; omega
    ·by_cases hq : (k : Int) < n
     ·right
      refine ⟨by simp; exact hq, ?_⟩
      have : (eV b k a).free.length = 0 := by
       show (b.free.drop k).length = 0
       rw [List.length_drop]
       omega
      rw [this]
      rfl
     ·left; simp; omega
   obtain ⟨bm, hbm⟩ : ∃ bm, bm = eV b k a := ⟨_, rfl⟩
   rw [← hbm] at gl HRR hend hrr
   have HBM := ak hbm
   have zs := ak hrr.1
   have xf := ak hrr.2.1
   have kN := ak hrr.2.2.1
   have uQ := ak hrr.2.2.2
   have ot := gl.out.cell 3 _ rfl
   clear hszs hbm Hd hrr sS He Hk Ho hol aJ
   rcases hend with he | ⟨he, Hl⟩
   all_goals
    go_wp2_with (first
     | ((with_reducible refine ax (N := 38) rfl ?_); refine az rfl 62 (.tmp 3) rfl gX rfl _ _ _ gl.out Try.underlying62 rfl 5 (by kernel_rfl) rfl ?_)
     | (refine aN rfl 62 (.tmp 6) (.tmp 38) rfl gZ (da bm.addr bm.aff (.slice A2 bm.slots.length c2) (.slice A3 bm.free.length c3) (.slice A4 M2.length c4)) rfl rfl 62 _ br.out 5 (by kernel_rfl) rfl rfl (dJ _ _ rfl rfl rfl) ?_; intro W1 aa J; have ah := gn gl aG J; have cr := gr bF br J; have bM := ak (aa); have bd := gr xf br J; have bp := gr kN br J; have bH := gr uQ br J; have ai := gb ae bN J; clear aa J gl bF br xf kN uQ ae ot))
    refine bodyPost_ret (eU rfl _ _ gZ 62 _ (0, 0) _ rfl bM.out Try.underlying62 rfl (by kernel_rfl)) rfl ⟨_, _, rfl, ?_, by rw [← HOO.out]; exact cr.out, ai.out⟩
    rw [← HBM.out]
    exact ⟨_, _, _, rfl, bd.out, bp.out, by rw [← zs.out]; exact bH.out⟩
end Go.Proofs.Ytemhalnhbgkbcaa.V
end

section
namespace Go.Proofs.Ytemhalnhbgkbcaa.V
structure Rd (W : World) (g : Nat) (ok : Nat → Prop) (v : Value) (l : List Int) (bad : Bool) : Prop where
 box : aH W g [v, .bool bad] 137
 vw : Kd.V (Kd.int .u8) 5 W 0 ok v l
 ng : ∀ k, ok k → k ≠ g
section
variable {W W1 : World} {g : Nat} {ok : Nat → Prop} {v : Value} {l : List Int} {bad : Bool}
theorem Rd.below (h : Rd W g ok v l bad) (hb : Below W.heap.size W W1) : Rd W1 g ok v l bad := ⟨h.box.below hb, Kd.V_below h.vw hb, h.ng⟩
theorem Rd.grown (h : Rd W g ok v l bad) {row : Option Nat} (hg : W.grownBy W1 row) (hr : ∀ k, ok k → some k ≠ row) (hn : some g ≠ row) : Rd W1 g ok v l bad := ⟨h.box.grown hg hn, Kd.V_grown h.vw hg hr, h.ng⟩
end
def kG (l : List Int) (bad : Bool) (n : Int) : List Int × List Int × Bool := if bad = false ∧ 0 ≤ n ∧ n ≤ l.length then (l.take n.toNat, l.drop n.toNat, false) else ([], l, true)
end Go.Proofs.Ytemhalnhbgkbcaa.V
end

section
namespace Go.Proofs.Ytemhalnhbgkbcaa.V
def DM (l : List Int) : Nat := l.foldl (fun n c => n * 256 + c.toNat) 0
def wm (l : List Int) (bad : Bool) : List Int × List Int × Bool := kG (kG l bad 1).2.1 ((kG l bad 1).2.2 || decide (64 < DM (kG l bad 1).1)) (DM (kG l bad 1).1 : Nat)
end Go.Proofs.Ytemhalnhbgkbcaa.V
end

section
namespace Go.Proofs.Ytemhalnhbgkbcaa.V
def tU (l : List Int) : List Int × List Int × Bool := wm (wm l false).2.1 (wm l false).2.2
def NV (l : List Int) : At := ⟨strOfNums (wm l false).1, strOfNums (tU l).1⟩
def B0 : Nat → List Int → Bool → List At × List Int × Bool
 | 0, l, bad => ([], l, bad)
 | n + 1, l, bad => if bad = true then ([], l, true) else (NV l :: (B0 n (tU l).2.1 (tU l).2.2).1, (B0 n (tU l).2.1 (tU l).2.2).2)
def EA (l : List Int) (bad : Bool) : List At × List Int × Bool := B0 (DM (kG l bad 1).1) (kG l bad 1).2.1 (kG l bad 1).2.2
theorem Rd.bound {W : World} {g : Nat} {ok : Nat → Prop} {v : Value} {l : List Int} {bad : Bool} (h : Rd W g ok v l bad) : Rd W g (fun k => ok k ∧ k < W.heap.size) v l bad := ⟨h.box, Kd.V_bound h.vw, fun k hk => h.ng k hk.1⟩
theorem Rd.mono {W : World} {g : Nat} {ok ok' : Nat → Prop} {v : Value} {l : List Int} {bad : Bool} (h : Rd W g ok v l bad) (hm : ∀ k, ok k → ok' k) (hn : ∀ k, ok' k → k ≠ g) : Rd W g ok' v l bad := ⟨h.box, Kd.V_mono h.vw hm, hn⟩
end Go.Proofs.Ytemhalnhbgkbcaa.V
end

section
namespace Go.Proofs.Ytemhalnhbgkbcaa.V
def r0 (s : ByteArray) := kG (bytesOf s) false 1
def r1 (s : ByteArray) := kG (r0 s).2.1 (r0 s).2.2 4
def r2 (s : ByteArray) := wm (r1 s).2.1 (r1 s).2.2
def r3 (s : ByteArray) := EA (r2 s).2.1 (r2 s).2.2
def r4 (s : ByteArray) := kG (r3 s).2.1 (r3 s).2.2 64
def r5 (s : ByteArray) := kG (r4 s).2.1 (r4 s).2.2 1
def r6 (s : ByteArray) := kG (r5 s).2.1 (r5 s).2.2 (DM (r5 s).1 : Nat)
section
variable {g : Nat} {ok : Nat → Prop} {v : Value} {W : World}
end
end Go.Proofs.Ytemhalnhbgkbcaa.V
end

section
namespace Go.Proofs.Ytemhalnhbgkbcaa.V
def sI.T6 : Bool × List (List Nat × List Nat) := (true, [([], []), ([0], [0]), ([], []), ([2], [2]), ([1, 3, 3], [1, 3])])
def sI.B6 : List Nat := [0, 1, 0, 4, 15]
theorem sI.tab6 : dC .any (opsOf Try.f38 6) = sI.T6 := by kernel_rfl
theorem sI.bits6 : cU sI.T6.2 sI.B6 = true := by kernel_rfl
end Go.Proofs.Ytemhalnhbgkbcaa.V
end

section
namespace Go.Proofs.Ytemhalnhbgkbcaa.V
attribute [local go_sem] ez ew fa e9 ec eb ey ev
attribute [local go_sem high] zO
def eB.l0 : Nat → List (S85) → List (S85) → Int → Int → Option (Bool)
 | 0, _, _, _, _ => none
 | k + 1, x0, x1, yS, kW => if kW < yS then (if 0 ≤ kW then (if kW < (x0.length : Int) then (if kW < (x1.length : Int) then (if (!((((cH x0 kW).f0).toList) == (((cH x1 kW).f0).toList)) || (!((((cH x0 kW).f1).toList) == (((cH x1 kW).f1).toList)))) = true then (some false) else (eB.l0 k x0 x1 yS (wrap64 (kW + 1)))) else (none)) else (none)) else (none)) else (some true)
def eB.f (k : Nat) (l0 : List (S85)) (l1 : List (S85)) : Option (Bool) := if (l0.length : Int) = (l1.length : Int) then (eB.l0 k l0 l1 (l0.length : Int) 0) else (some false)
set_option maxHeartbeats 8000000 in
set_option maxRecDepth 100000 in
theorem eB.calls (k : Nat) (A0 : Option Addr) (c0 : Nat) (l0 : List (S85)) (A1 : Option Addr) (c1 : Nat) (l1 : List (S85)) (r : Bool) (w : World) (qW : Kd.C kc w A0 l0.length l0) (lT : l0.length ≤ c0) (tH : Kd.C kc w A1 l1.length l1) (uq : l1.length ≤ c1) (h : eB.f k l0 l1 = some r) :
  Calls Try.prog 78 #[.slice A0 l0.length c0, .slice A1 l1.length c1] w fun e w' => e = .returned (.bool r) ∧ Drawn0 w w' := by
 have Gn := Try.underlying85
 have rv := ak qW
 have Jq := ak lT
 clear qW lT
 have mu := ak tH
 have Dt := ak uq
 clear tH uq
 have H : (if (l0.length : Int) = (l1.length : Int) then (eB.l0 k l0 l1 (l0.length : Int) 0) else (some false)) = some r := h
 clear h
 by_cases c3 : (l0.length : Int) = (l1.length : Int)
 ·rw [if_pos c3] at H
  have nB : ((l0.length : Int) == (l1.length : Int)) = true := beq_iff_eq.mpr c3
  have BF : ((l0.length : Int) != (l1.length : Int)) = false := bne_eq_false_iff_eq.mpr c3
  have BE : (l0.length == l1.length) = true := by first | simpa using c3 | (simp at c3 ⊢; omega)
  clear c3
  have H' := ak H
  clear H
  go_enter Try.func78, Try.ntmps78
  go_wp2
  repeat (go_quiet (fail); try go_wp2)
  go_loopg [13] k (fun kq Ep w' => ∃ (bg : Int), Ep = .int .i64 bg ∧ Aside0 (eB.l0 kq l0 l1 (l0.length : Int) bg = some r) ∧ Aside0 (kq ≤ k) ∧ Drawn0 w w')
  case atStart => exact ⟨(0), (by first | rfl | (simp; done) | (simp [*]; done)), H', ⟨Nat.le_refl _⟩, by repeat (first | exact Drawn0.refl _ | apply Drawn0.step)⟩
  case round =>
   clear H'
   obtain ⟨bg, rfl, HA, du, ⟨m1, rfl⟩⟩ := hrel
   cases gk with
   | zero => exact absurd HA.out (by simp [eB.l0])
   | succ k1 =>
    have H := HA.out
    clear HA
    simp only [eB.l0] at H
    by_cases c4 : bg < (l0.length : Int)
    ·rw [if_pos c4] at H
     have uw : decide (bg < (l0.length : Int)) = true := decide_eq_true c4
     clear c4
     by_cases c5 : 0 ≤ bg
     ·rw [if_pos c5] at H
      have vX : decide (0 ≤ bg) = true := decide_eq_true c5
      clear c5
      by_cases c6 : bg < (l0.length : Int)
      ·rw [if_pos c6] at H
       have nA : decide (bg < (l0.length : Int)) = true := decide_eq_true c6
       clear c6
       by_cases c7 : bg < (l1.length : Int)
       ·rw [if_pos c7] at H
        have qv : decide (bg < (l1.length : Int)) = true := decide_eq_true c7
        clear c7
        by_cases c8 : (!((((cH l0 bg).f0).toList) == (((cH l1 bg).f0).toList)) || (!((((cH l0 bg).f1).toList) == (((cH l1 bg).f1).toList)))) = true
        ·rw [if_pos c8] at H
         have qu : (!((((cH l0 bg).f0).toList) == (((cH l1 bg).f0).toList)) || (!((((cH l0 bg).f1).toList) == (((cH l1 bg).f1).toList)))) = true := c8
         clear c8
         obtain rfl := Option.some.inj H
         have qc : 0 ≤ (bg : Int) := of_decide_eq_true (by first | (with_reducible assumption) | assumption)
         have pZ : bg < (l0.length : Int) := of_decide_eq_true (by first | (with_reducible assumption) | assumption)
         obtain ⟨KE, Bq, EW, EV⟩ := kH rv.out bg qc pZ
         cases Bq
         replace qc := eq_true qc
         replace pZ := eq_true pZ
         have qb : 0 ≤ (bg : Int) := of_decide_eq_true (by first | (with_reducible assumption) | assumption)
         have pY : bg < (l1.length : Int) := of_decide_eq_true (by first | (with_reducible assumption) | assumption)
         obtain ⟨KD, Bp, EU, ET⟩ := kH mu.out bg qb pY
         cases Bp
         replace qb := eq_true qb
         replace pY := eq_true pY
         go_wp2
         repeat (go_quiet (fail); try go_wp2)
         go_ret
         exact ⟨by first | rfl | (simp; done) | (simp [*]; done), by repeat (first | exact Drawn0.refl _ | apply Drawn0.step)⟩
        ·rw [if_neg c8] at H
         have qu : (!((((cH l0 bg).f0).toList) == (((cH l1 bg).f0).toList)) || (!((((cH l0 bg).f1).toList) == (((cH l1 bg).f1).toList)))) = false := by simpa using c8
         clear c8
         have H' := ak H
         clear H
         have qc : 0 ≤ (bg : Int) := of_decide_eq_true (by first | (with_reducible assumption) | assumption)
         have pZ : bg < (l0.length : Int) := of_decide_eq_true (by first | (with_reducible assumption) | assumption)
         obtain ⟨KE, Bq, EW, EV⟩ := kH rv.out bg qc pZ
         cases Bq
         replace qc := eq_true qc
         replace pZ := eq_true pZ
         have qb : 0 ≤ (bg : Int) := of_decide_eq_true (by first | (with_reducible assumption) | assumption)
         have pY : bg < (l1.length : Int) := of_decide_eq_true (by first | (with_reducible assumption) | assumption)
         obtain ⟨KD, Bp, EU, ET⟩ := kH mu.out bg qb pY
         cases Bp
         replace qb := eq_true qb
         replace pY := eq_true pY
         go_wp2
         repeat (go_quiet (fail); try go_wp2)
         go_roundg k1
         case measure => have := du.out; omega
         case rel => exact ⟨(wrap64 (bg + 1)), (by first | rfl | (simp; done) | (simp [*]; done)), H', ⟨by have := du.out; omega⟩, by repeat (first | exact Drawn0.refl _ | apply Drawn0.step)⟩
       ·rw [if_neg c7] at H
        exact absurd H (by simp)
      ·rw [if_neg c6] at H
       exact absurd H (by simp)
     ·rw [if_neg c5] at H
      exact absurd H (by simp)
    ·rw [if_neg c4] at H
     have uw : decide (bg < (l0.length : Int)) = false := decide_eq_false c4
     clear c4
     obtain rfl := Option.some.inj H
     go_wp2
     repeat (go_quiet (fail); try go_wp2)
     go_ret
     exact ⟨by first | rfl | (simp; done) | (simp [*]; done), by repeat (first | exact Drawn0.refl _ | apply Drawn0.step)⟩
 ·rw [if_neg c3] at H
  have nB : ((l0.length : Int) == (l1.length : Int)) = false := beq_eq_false_iff_ne.mpr c3
  have BF : ((l0.length : Int) != (l1.length : Int)) = true := bne_iff_ne.mpr c3
  have BE : (l0.length == l1.length) = false := by first | simpa using c3 | (simp at c3 ⊢; omega)
  obtain rfl := Option.some.inj H
  go_enter Try.func78, Try.ntmps78
  go_wp2
  repeat (go_quiet (fail); try go_wp2)
  go_ret
  exact ⟨by first | rfl | (simp; done) | (simp [*]; done), by repeat (first | exact Drawn0.refl _ | apply Drawn0.step)⟩
end Go.Proofs.Ytemhalnhbgkbcaa.V
end

section
namespace Go.Proofs.Ytemhalnhbgkbcaa.V
attribute [local go_sem] ez ew fa e9 ec eb ey ev
def b3.l0 : Nat → List Int → List Int → Int → Int → Option (Bool)
 | 0, _, _, _, _ => none
 | k + 1, x0, x1, yS, kW => if kW < yS then (if 0 ≤ kW then (if kW < (x0.length : Int) then (if kW < (x1.length : Int) then (if (rd x0 kW) = (rd x1 kW) then (b3.l0 k x0 x1 yS (wrap64 (kW + 1))) else (some false)) else (none)) else (none)) else (none)) else (some true)
def b3.f (k : Nat) (l0 : List Int) (l1 : List Int) : Option (Bool) := if (l0.length : Int) = (l1.length : Int) then (b3.l0 k l0 l1 (l0.length : Int) 0) else (some false)
set_option maxHeartbeats 8000000 in
set_option maxRecDepth 100000 in
theorem b3.calls (k : Nat) (A0 : Option Addr) (c0 : Nat) (l0 : List Int) (A1 : Option Addr) (c1 : Nat) (l1 : List Int) (r : Bool) (w : World) (qW : Kd.C (Kd.int .u8) w A0 l0.length l0) (lT : l0.length ≤ c0) (tH : Kd.C (Kd.int .u8) w A1 l1.length l1) (uq : l1.length ≤ c1) (h : b3.f k l0 l1 = some r) :
  Calls Try.prog 77 #[.slice A0 l0.length c0, .slice A1 l1.length c1] w fun e w' => e = .returned (.bool r) ∧ Drawn0 w w' := by
 have rv := ak qW
 have Jq := ak lT
 clear qW lT
 have mu := ak tH
 have Dt := ak uq
 clear tH uq
 have H : (if (l0.length : Int) = (l1.length : Int) then (b3.l0 k l0 l1 (l0.length : Int) 0) else (some false)) = some r := h
 clear h
 by_cases c3 : (l0.length : Int) = (l1.length : Int)
 ·rw [if_pos c3] at H
  have nB : ((l0.length : Int) == (l1.length : Int)) = true := beq_iff_eq.mpr c3
  have BF : ((l0.length : Int) != (l1.length : Int)) = false := bne_eq_false_iff_eq.mpr c3
  have BE : (l0.length == l1.length) = true := by first | simpa using c3 | (simp at c3 ⊢; omega)
  clear c3
  have H' := ak H
  clear H
  go_enter Try.func77, Try.ntmps77
  go_wp2
  repeat (go_quiet (fail); try go_wp2)
  go_loopg [13] k (fun kq Ep w' => ∃ (bg : Int), Ep = .int .i64 bg ∧ Aside0 (b3.l0 kq l0 l1 (l0.length : Int) bg = some r) ∧ Aside0 (kq ≤ k) ∧ Drawn0 w w')
  case atStart => exact ⟨(0), (by first | rfl | (simp; done) | (simp [*]; done)), H', ⟨Nat.le_refl _⟩, by repeat (first | exact Drawn0.refl _ | apply Drawn0.step)⟩
  case round =>
   clear H'
   obtain ⟨bg, rfl, HA, du, ⟨m1, rfl⟩⟩ := hrel
   cases gk with
   | zero => exact absurd HA.out (by simp [b3.l0])
   | succ k1 =>
    have H := HA.out
    clear HA
    simp only [b3.l0] at H
    by_cases c4 : bg < (l0.length : Int)
    ·rw [if_pos c4] at H
     have uw : decide (bg < (l0.length : Int)) = true := decide_eq_true c4
     clear c4
     by_cases c5 : 0 ≤ bg
     ·rw [if_pos c5] at H
      have vX : decide (0 ≤ bg) = true := decide_eq_true c5
      clear c5
      by_cases c6 : bg < (l0.length : Int)
      ·rw [if_pos c6] at H
       have nA : decide (bg < (l0.length : Int)) = true := decide_eq_true c6
       clear c6
       by_cases c7 : bg < (l1.length : Int)
       ·rw [if_pos c7] at H
        have qv : decide (bg < (l1.length : Int)) = true := decide_eq_true c7
        clear c7
        by_cases c8 : (rd l0 bg) = (rd l1 bg)
        ·rw [if_pos c8] at H
         have qu : ((rd l0 bg) == (rd l1 bg)) = true := beq_iff_eq.mpr c8
         have BA : ((rd l0 bg) != (rd l1 bg)) = false := bne_eq_false_iff_eq.mpr c8
         clear c8
         have H' := ak H
         clear H
         have qe : 0 ≤ (bg : Int) := of_decide_eq_true (by first | (with_reducible assumption) | assumption)
         have p6 : bg < (l0.length : Int) := of_decide_eq_true (by first | (with_reducible assumption) | assumption)
         obtain ⟨KG, Bs, EY⟩ := Kd.at_int rv.out bg qe p6
         cases Bs
         replace qe := eq_true qe
         replace p6 := eq_true p6
         have qd : 0 ≤ (bg : Int) := of_decide_eq_true (by first | (with_reducible assumption) | assumption)
         have p5 : bg < (l1.length : Int) := of_decide_eq_true (by first | (with_reducible assumption) | assumption)
         obtain ⟨KF, Br, EX⟩ := Kd.at_int mu.out bg qd p5
         cases Br
         replace qd := eq_true qd
         replace p5 := eq_true p5
         go_wp2
         repeat (go_quiet (fail); try go_wp2)
         go_roundg k1
         case measure => have := du.out; omega
         case rel => exact ⟨(wrap64 (bg + 1)), (by first | rfl | (simp; done) | (simp [*]; done)), H', ⟨by have := du.out; omega⟩, by repeat (first | exact Drawn0.refl _ | apply Drawn0.step)⟩
        ·rw [if_neg c8] at H
         have qu : ((rd l0 bg) == (rd l1 bg)) = false := beq_eq_false_iff_ne.mpr c8
         have BA : ((rd l0 bg) != (rd l1 bg)) = true := bne_iff_ne.mpr c8
         obtain rfl := Option.some.inj H
         have qe : 0 ≤ (bg : Int) := of_decide_eq_true (by first | (with_reducible assumption) | assumption)
         have p6 : bg < (l0.length : Int) := of_decide_eq_true (by first | (with_reducible assumption) | assumption)
         obtain ⟨KG, Bs, EY⟩ := Kd.at_int rv.out bg qe p6
         cases Bs
         replace qe := eq_true qe
         replace p6 := eq_true p6
         have qd : 0 ≤ (bg : Int) := of_decide_eq_true (by first | (with_reducible assumption) | assumption)
         have p5 : bg < (l1.length : Int) := of_decide_eq_true (by first | (with_reducible assumption) | assumption)
         obtain ⟨KF, Br, EX⟩ := Kd.at_int mu.out bg qd p5
         cases Br
         replace qd := eq_true qd
         replace p5 := eq_true p5
         go_wp2
         repeat (go_quiet (fail); try go_wp2)
         go_ret
         exact ⟨by first | rfl | (simp; done) | (simp [*]; done), by repeat (first | exact Drawn0.refl _ | apply Drawn0.step)⟩
       ·rw [if_neg c7] at H
        exact absurd H (by simp)
      ·rw [if_neg c6] at H
       exact absurd H (by simp)
     ·rw [if_neg c5] at H
      exact absurd H (by simp)
    ·rw [if_neg c4] at H
     have uw : decide (bg < (l0.length : Int)) = false := decide_eq_false c4
     clear c4
     obtain rfl := Option.some.inj H
     go_wp2
     repeat (go_quiet (fail); try go_wp2)
     go_ret
     exact ⟨by first | rfl | (simp; done) | (simp [*]; done), by repeat (first | exact Drawn0.refl _ | apply Drawn0.step)⟩
 ·rw [if_neg c3] at H
  have nB : ((l0.length : Int) == (l1.length : Int)) = false := beq_eq_false_iff_ne.mpr c3
  have BF : ((l0.length : Int) != (l1.length : Int)) = true := bne_iff_ne.mpr c3
  have BE : (l0.length == l1.length) = false := by first | simpa using c3 | (simp at c3 ⊢; omega)
  obtain rfl := Option.some.inj H
  go_enter Try.func77, Try.ntmps77
  go_wp2
  repeat (go_quiet (fail); try go_wp2)
  go_ret
  exact ⟨by first | rfl | (simp; done) | (simp [*]; done), by repeat (first | exact Drawn0.refl _ | apply Drawn0.step)⟩
end Go.Proofs.Ytemhalnhbgkbcaa.V
end

section
namespace Go.Proofs.Ytemhalnhbgkbcaa.V
theorem MU (l : List Int) (hl : l.length ≤ 1000) : b3.f (l.length + 5) l l = some true := by
 have key : ∀ (d i k : Nat), i + d = l.length → d < k → b3.l0 k l l (l.length : Int) (i : Int) = some true := by
  intro d
  induction d with
  | zero =>
   intro i k hi hk
   obtain ⟨k, rfl⟩ : ∃ m, k = m + 1 := ⟨k - 1, by omega⟩
   rw [b3.l0, if_neg (by omega)]
  | succ d ih =>
   intro i k hi hk
   obtain ⟨k, rfl⟩ : ∃ m, k = m + 1 := ⟨k - 1, by omega⟩
   have e := ih (i + 1) k (by omega) (by omega)
   rw [b3.l0]
   simp only [show (i : Int) < (l.length : Int) by omega, show (0 : Int) ≤ (i : Int) by omega, if_true]
   rw [iB ((i : Int) + 1) (by omega) (by omega), show (i : Int) + 1 = ((i + 1 : Nat) : Int) by omega]
   simpa using e
 unfold b3.f
 rw [if_pos rfl]
 exact key l.length 0 _ (by omega) (by omega)
theorem MT (l : List At) (hl : l.length ≤ 1000) : eB.f (l.length + 5) l l = some true := by
 have key : ∀ (d i k : Nat), i + d = l.length → d < k → eB.l0 k l l (l.length : Int) (i : Int) = some true := by
  intro d
  induction d with
  | zero =>
   intro i k hi hk
   obtain ⟨k, rfl⟩ : ∃ m, k = m + 1 := ⟨k - 1, by omega⟩
   rw [eB.l0, if_neg (by omega)]
  | succ d ih =>
   intro i k hi hk
   obtain ⟨k, rfl⟩ : ∃ m, k = m + 1 := ⟨k - 1, by omega⟩
   have e := ih (i + 1) k (by omega) (by omega)
   rw [eB.l0]
   simp only [show (i : Int) < (l.length : Int) by omega, show (0 : Int) ≤ (i : Int) by omega, if_true]
   rw [iB ((i : Int) + 1) (by omega) (by omega), show (i : Int) + 1 = ((i + 1 : Nat) : Int) by omega]
   simpa using e
 unfold eB.f
 rw [if_pos rfl]
 exact key l.length 0 _ (by omega) (by omega)
set_option maxHeartbeats 4000000 in
set_option maxRecDepth 100000 in
theorem F3 (b : Bk) (hfl : b.free.length ≤ 1000) (hal : b.attrs.length ≤ 1000) (v v' : Value) (w : World) (h : fS w v b) (h' : fS w v' b) :
  Calls Try.prog 40 #[v, v'] w fun e w' => e = .returned (.bool true) ∧ Below w.heap.size w w' := by
 obtain ⟨A, c, A', c', rfl, hr⟩ := h
 obtain ⟨B, d, B', d', rfl, hq⟩ := h'
 have HL := ak hr.l64
 have HR := ak hr
 have HQ := ak hq
 have S8 := ak (MU b.free hfl)
 have HEA := ak (MT b.attrs hal)
 have HLN := ak (show (Try.prog.info? 47).map (·.size) = some (b.slots.map (Value.int .u8)).length by rw [List.length_map, hr.l64]; kernel_rfl)
 have hEq := fun (d : Nat) (w : World) => vO (P := Try.prog) w .u8 d 47 5 64 Try.underlying47 Try.underlying5 G8 b.slots b.slots hr.l64 hr.l64
 simp only [beq_self_eq_true] at hEq
 clear hr hq hfl hal
 go_enter Try.func40, Try.ntmps40
 go_wp2_with (first
  | (refine aE rfl 57 (.tmp 0) rfl _ rfl ?_; intro g W1 hg hbx cy; have ij := ak hbx; have cn := ak cy; clear hbx cy hg)
  | (refine aE rfl 57 (.tmp 1) rfl _ rfl ?_; intro g' W2 hg' hbx' eL; have gl := ak (ij.out.below eL); have sT := ak hbx'; have jw := ak (cn.out.trans (eL.mono cn.out.size)); have h0 := gl.out.cell 0 _ rfl; have Uw := sT.out.cell 0 _ rfl; have h1 := gl.out.cell 1 _ rfl; have Uv := sT.out.cell 1 _ rfl; have Hp := gl.out.cell 66 _ (fP _ _ _ _ _ HL.out); have TY := sT.out.cell 66 _ (fP _ _ _ _ _ HL.out); clear hbx' eL hg' ij cn)
  | ((with_reducible refine ax (N := 19) rfl ?_); refine ff (by rfl) ?_; refine eQ rfl 47 (.tmp 18) rfl g 2 rfl 57 _ (b.slots.map (Value.int .u8)) (.array 64 5) gl.out (kv _ _ _ _ _ HL.out) Try.underlying47 rfl HLN.out ?_)
  | ((with_reducible refine ax (N := 21) rfl ?_); refine ff (by rfl) ?_; refine eQ rfl 47 (.tmp 20) rfl g' 2 rfl 57 _ (b.slots.map (Value.int .u8)) (.array 64 5) sT.out (kv _ _ _ _ _ HL.out) Try.underlying47 rfl HLN.out ?_)
  | (go_at_call 77; refine (b3.calls _ A c b.free B d b.free true _ (HR.out.below jw.out).fr HR.out.fc (HQ.out.below jw.out).fr HQ.out.fc S8.out).mono ?_; rintro e W3 ⟨rfl, ⟨n3, rfl⟩⟩; have nz := (gl.out.below (af (Below.refl _ _) n3)).cell 67 _ (fi _ _ _ _ _ HL.out); have TX := (sT.out.below (af (Below.refl _ _) n3)).cell 67 _ (fi _ _ _ _ _ HL.out); have jL := ak (af jw.out n3))
  | (go_at_call 78; refine (eB.calls _ A' c' b.attrs B' d' b.attrs true _ (HR.out.below jL.out).ar HR.out.ac (HQ.out.below jL.out).ar HQ.out.ac HEA.out).mono ?_; rintro e W4 ⟨rfl, ⟨n4, rfl⟩⟩; have ob := ak (af jL.out n4)))
 go_ret
 exact ⟨rfl, by apply af; exact jw.out⟩
end Go.Proofs.Ytemhalnhbgkbcaa.V
end

section
namespace Go.Proofs.Ytemhalnhbgkbcaa.V
attribute [local go_sem] ez ew fa e9 ec eb ey ev
def ja.f (k : Nat) (a0 : ByteArray) : Option (Bool) := if a0.toList = ([] : List UInt8) then (some true) else ((ay.f k a0).bind fun sy => (some sy))
set_option maxHeartbeats 8000000 in
set_option maxRecDepth 100000 in
theorem ja.calls (k : Nat) (a0 : ByteArray) (r : Bool) (w : World) (h : ja.f k a0 = some r) :
  Calls Try.prog 42 #[.string a0] w fun e w' => e = .returned (.bool r) ∧ Drawn0 w w' := by
 have H : (if a0.toList = ([] : List UInt8) then (some true) else ((ay.f k a0).bind fun sy => (some sy))) = some r := h
 clear h
 by_cases c2 : a0.toList = ([] : List UInt8)
 ·rw [if_pos c2] at H
  have sm : (a0.toList == ([] : List UInt8)) = true := beq_iff_eq.mpr c2
  have yJ : (a0.toList != ([] : List UInt8)) = false := bne_eq_false_iff_eq.mpr c2
  clear c2
  obtain rfl := Option.some.inj H
  go_enter Try.func42, Try.ntmps42
  go_wp2
  go_ret
  exact ⟨by first | rfl | (simp; done) | (simp [*]; done), by repeat (first | exact Drawn0.refl _ | apply Drawn0.step)⟩
 ·rw [if_neg c2] at H
  have sm : (a0.toList == ([] : List UInt8)) = false := beq_eq_false_iff_ne.mpr c2
  have yJ : (a0.toList != ([] : List UInt8)) = true := bne_iff_ne.mpr c2
  replace H := Option.bind_eq_some_iff.mp H
  obtain ⟨sy, r9, H⟩ := H
  replace H : (some sy) = some r := H
  have A3 := ak r9
  clear r9
  obtain rfl := Option.some.inj H
  go_enter Try.func42, Try.ntmps42
  go_wp2_with (first | (go_at_call 81; (with_reducible refine (ay.calls k a0 sy _ A3.out).mono ?_); rintro e w' ⟨rfl, ⟨nd, rfl⟩⟩))
  go_ret
  exact ⟨by first | rfl | (simp; done) | (simp [*]; done), by repeat (first | exact Drawn0.refl _ | apply Drawn0.step)⟩
end Go.Proofs.Ytemhalnhbgkbcaa.V
end

section
namespace Go.Proofs.Ytemhalnhbgkbcaa.V
attribute [local go_sem] ez ew fa e9 ec eb ey ev
def jW.f (k : Nat) (bq : ByteArray) (bz : ByteArray) : Option (Bool) := (ay.f k bq).bind fun sx => (if sx = true then ((ay.f k bz).bind fun mI => (some mI)) else (some false))
set_option maxHeartbeats 8000000 in
set_option maxRecDepth 100000 in
theorem jW.calls (k : Nat) (bq : ByteArray) (bz : ByteArray) (r : Bool) (w : World) (h : jW.f k bq bz = some r) :
  Calls Try.prog 60 #[.agg #[.string bq, .string bz]] w fun e w' => e = .returned (.bool r) ∧ Below w.heap.size w w' := by
 have Lp := Try.underlying76
 have HB := ak (Below.refl w.heap.size w)
 have H : ((ay.f k bq).bind fun sx => (if sx = true then ((ay.f k bz).bind fun mI => (some mI)) else (some false))) = some r := h
 clear h
 replace H := Option.bind_eq_some_iff.mp H
 obtain ⟨sx, zv, H⟩ := H
 replace H : (if sx = true then ((ay.f k bz).bind fun mI => (some mI)) else (some false)) = some r := H
 have A2 := ak zv
 clear zv
 by_cases c3 : sx = true
 ·subst c3
  have H1 : ((ay.f k bz).bind fun mI => (some mI)) = some r := by rw [if_pos rfl] at H; exact H
  clear H
  have H := H1
  clear H1
  replace H := Option.bind_eq_some_iff.mp H
  obtain ⟨mI, FU, H⟩ := H
  replace H : (some mI) = some r := H
  have A4 := ak FU
  clear FU
  obtain rfl := Option.some.inj H
  go_enter Try.func60, Try.ntmps60
  go_wp2_with (first | ((with_reducible refine ax (N := 1) rfl ?_); refine eX ?hg (N := 1) ?hd (cs := #[.string bq, .string bz]) (t := 76) ?hr ?_; (case hd => rfl); (case hg => rfl); (case hr => first | (go_simp; done) | (go_simp; rfl)); intro ma hg w5 hbox hb; have cA := ak (bE (by repeat (first | (with_reducible first | exact HB.out | apply al | apply af | apply aq) | exact HB.out)) hb); have cP := ak (hbox); have dh := ak ((by rw [hg]; exact (bs (by repeat (first | (with_reducible first | exact HB.out | apply al | apply af | apply aq) | exact HB.out))) : w.heap.size ≤ ma)); have dN := ak ((by rw [hg]; exact (bs (by repeat (first | (with_reducible first | exact HB.out | apply al | apply af | apply aq) | exact HB.out))) : w.heap.size ≤ ma)); clear HB; have HB := cA; have mo := cP; have KS := dh; have yP := dN; clear cA cP dh dN; clear hb hbox hg; have Bg : w5.cell? ⟨ma, 0, none⟩ = some (.string bq) := (aC mo.out 0).trans rfl; have Bf : w5.cell? ⟨ma, 1, none⟩ = some (.string bz) := (aC mo.out 1).trans rfl; have Ba := ao mo.out 0; have A6 := ao mo.out 1) | ((with_reducible refine fJ (f := 81) rfl ?_); refine kF (some 5) rfl rfl Try.func81 (by kernel_rfl) rfl #[.string bq] rfl (by (try simp only [List.map_toArray, List.map_cons, List.map_nil]); first | done | rfl | (simp only [List.length_drop, List.length_take]; rfl)) ?_; (with_reducible refine (ay.calls k bq true _ A2.out).mono ?_); rintro e w' ⟨rfl, ⟨nd, rfl⟩⟩; refine ⟨_, rfl, ?_⟩) | (go_at_call 81; (with_reducible refine (ay.calls k bz mI _ A4.out).mono ?_); rintro e w' ⟨rfl, ⟨nd, rfl⟩⟩))
  go_ret
  exact ⟨by first | rfl | (simp [cw, ct] <;> rfl) | (simp [*, cw, ct] <;> rfl), by repeat (first | (with_reducible first | exact HB.out | apply al | apply af | apply aq | refine aQ ?_ yP.out) | exact HB.out)⟩
 ·replace c3 := Bool.eq_false_iff.mpr c3
  subst c3
  have H1 : (some false) = some r := by rw [if_neg (show ¬ (false = true) by decide)] at H; exact H
  clear H
  have H := H1
  clear H1
  obtain rfl := Option.some.inj H
  go_enter Try.func60, Try.ntmps60
  go_wp2_with (first | ((with_reducible refine ax (N := 1) rfl ?_); refine eX ?hg (N := 1) ?hd (cs := #[.string bq, .string bz]) (t := 76) ?hr ?_; (case hd => rfl); (case hg => rfl); (case hr => first | (go_simp; done) | (go_simp; rfl)); intro ma hg w7 hbox hb; have cA := ak (bE (by repeat (first | (with_reducible first | exact HB.out | apply al | apply af | apply aq) | exact HB.out)) hb); have cP := ak (hbox); have dh := ak ((by rw [hg]; exact (bs (by repeat (first | (with_reducible first | exact HB.out | apply al | apply af | apply aq) | exact HB.out))) : w.heap.size ≤ ma)); have dN := ak ((by rw [hg]; exact (bs (by repeat (first | (with_reducible first | exact HB.out | apply al | apply af | apply aq) | exact HB.out))) : w.heap.size ≤ ma)); clear HB; have HB := cA; have mo := cP; have KS := dh; have yP := dN; clear cA cP dh dN; clear hb hbox hg; have Fa : w7.cell? ⟨ma, 0, none⟩ = some (.string bq) := (aC mo.out 0).trans rfl; have E9 : w7.cell? ⟨ma, 1, none⟩ = some (.string bz) := (aC mo.out 1).trans rfl; have E8 := ao mo.out 0; have E7 := ao mo.out 1) | ((with_reducible refine fJ (f := 81) rfl ?_); refine kF (some 5) rfl rfl Try.func81 (by kernel_rfl) rfl #[.string bq] rfl (by (try simp only [List.map_toArray, List.map_cons, List.map_nil]); first | done | rfl | (simp only [List.length_drop, List.length_take]; rfl)) ?_; (with_reducible refine (ay.calls k bq false _ A2.out).mono ?_); rintro e w' ⟨rfl, ⟨nd, rfl⟩⟩; refine ⟨_, rfl, ?_⟩))
  go_ret
  exact ⟨by first | rfl | (simp [cw, ct] <;> rfl) | (simp [*, cw, ct] <;> rfl), by repeat (first | (with_reducible first | exact HB.out | apply al | apply af | apply aq | refine aQ ?_ yP.out) | exact HB.out)⟩
end Go.Proofs.Ytemhalnhbgkbcaa.V
end

section
namespace Go.Proofs.Ytemhalnhbgkbcaa.V
attribute [local go_sem] ez ew fa e9 ec eb ey ev
def cT.l0 : Nat → Int → Int → List Int → Int → Int → Option (Int)
 | 0, _, _, _, _, _ => none
 | k + 1, x1, x5, x8, x9, CQ => if CQ < x9 then (if 0 ≤ CQ then (if CQ < (x8.length : Int) then (if (rd x8 CQ) = x1 then (cT.l0 k x1 (wrap64 (x5 + 1)) x8 x9 (wrap64 (CQ + 1))) else (cT.l0 k x1 x5 x8 x9 (wrap64 (CQ + 1)))) else (none)) else (none)) else (some x5)
def cT.f (k : Nat) (l0 : List Int) (a1 : Int) : Option (Int) := cT.l0 k a1 0 l0 (l0.length : Int) 0
set_option maxHeartbeats 8000000 in
set_option maxRecDepth 100000 in
theorem cT.calls (k : Nat) (A0 : Option Addr) (c0 : Nat) (l0 : List Int) (a1 : Int) (r : Int) (w : World) (qW : Kd.C (Kd.int .i64) w A0 l0.length l0) (lT : l0.length ≤ c0) (h : cT.f k l0 a1 = some r) :
  Calls Try.prog 68 #[.slice A0 l0.length c0, .int .i64 a1] w fun e w' => e = .returned (.int .i64 r) ∧ Drawn0 w w' := by
 have rv := ak qW
 have Jq := ak lT
 clear qW lT
 have H : (cT.l0 k a1 0 l0 (l0.length : Int) 0) = some r := h
 clear h
 have H' := ak H
 clear H
 go_enter Try.func68, Try.ntmps68
 go_wp2
 go_loopg [5, 10] k (fun kq v5 v10 w' => ∃ (z2 : Int) (im : Int), v5 = .int .i64 z2 ∧ v10 = .int .i64 im ∧ Aside0 (cT.l0 kq a1 z2 l0 (l0.length : Int) im = some r) ∧ Aside0 (kq ≤ k) ∧ Drawn0 w w')
 case atStart => exact ⟨(0), (0), (by first | rfl | (simp; done) | (simp [*]; done)), (by first | rfl | (simp; done) | (simp [*]; done)), H', ⟨Nat.le_refl _⟩, by repeat (first | exact Drawn0.refl _ | apply Drawn0.step)⟩
 case round =>
  clear H'
  obtain ⟨z2, im, rfl, rfl, HA, du, ⟨m1, rfl⟩⟩ := hrel
  cases gk with
  | zero => exact absurd HA.out (by simp [cT.l0])
  | succ k1 =>
   have H := HA.out
   clear HA
   simp only [cT.l0] at H
   by_cases c3 : im < (l0.length : Int)
   ·rw [if_pos c3] at H
    have nB : decide (im < (l0.length : Int)) = true := decide_eq_true c3
    clear c3
    by_cases c4 : 0 ≤ im
    ·rw [if_pos c4] at H
     have uw : decide (0 ≤ im) = true := decide_eq_true c4
     clear c4
     by_cases c5 : im < (l0.length : Int)
     ·rw [if_pos c5] at H
      have vX : decide (im < (l0.length : Int)) = true := decide_eq_true c5
      clear c5
      by_cases c6 : (rd l0 im) = a1
      ·rw [if_pos c6] at H
       have nA : ((rd l0 im) == a1) = true := beq_iff_eq.mpr c6
       have Pd : ((rd l0 im) != a1) = false := bne_eq_false_iff_eq.mpr c6
       clear c6
       have H' := ak H
       clear H
       have qf : 0 ≤ (im : Int) := of_decide_eq_true (by first | (with_reducible assumption) | assumption)
       have p7 : im < (l0.length : Int) := of_decide_eq_true (by first | (with_reducible assumption) | assumption)
       obtain ⟨KH, Bt, EZ⟩ := Kd.at_int rv.out im qf p7
       cases Bt
       replace qf := eq_true qf
       replace p7 := eq_true p7
       go_wp2
       go_roundg k1
       case measure => have := du.out; omega
       case rel => exact ⟨(wrap64 (z2 + 1)), (wrap64 (im + 1)), (by first | rfl | (simp; done) | (simp [*]; done)), (by first | rfl | (simp; done) | (simp [*]; done)), H', ⟨by have := du.out; omega⟩, by repeat (first | exact Drawn0.refl _ | apply Drawn0.step)⟩
      ·rw [if_neg c6] at H
       have nA : ((rd l0 im) == a1) = false := beq_eq_false_iff_ne.mpr c6
       have Pd : ((rd l0 im) != a1) = true := bne_iff_ne.mpr c6
       have H' := ak H
       clear H
       have qf : 0 ≤ (im : Int) := of_decide_eq_true (by first | (with_reducible assumption) | assumption)
       have p7 : im < (l0.length : Int) := of_decide_eq_true (by first | (with_reducible assumption) | assumption)
       obtain ⟨KH, Bt, EZ⟩ := Kd.at_int rv.out im qf p7
       cases Bt
       replace qf := eq_true qf
       replace p7 := eq_true p7
       go_wp2
       go_roundg k1
       case measure => have := du.out; omega
       case rel => exact ⟨(z2), (wrap64 (im + 1)), (by first | rfl | (simp; done) | (simp [*]; done)), (by first | rfl | (simp; done) | (simp [*]; done)), H', ⟨by have := du.out; omega⟩, by repeat (first | exact Drawn0.refl _ | apply Drawn0.step)⟩
     ·rw [if_neg c5] at H
      exact absurd H (by simp)
    ·rw [if_neg c4] at H
     exact absurd H (by simp)
   ·rw [if_neg c3] at H
    have nB : decide (im < (l0.length : Int)) = false := decide_eq_false c3
    clear c3
    obtain rfl := Option.some.inj H
    go_wp2
    go_ret
    exact ⟨by first | rfl | (simp; done) | (simp [*]; done), by repeat (first | exact Drawn0.refl _ | apply Drawn0.step)⟩
end Go.Proofs.Ytemhalnhbgkbcaa.V
end

section
namespace Go.Proofs.Ytemhalnhbgkbcaa.V
theorem fS.R {W : World} {b : Bk} {A A' : Option Addr} {c c' : Nat} (h : BkR W b A c A' c') : fS W (.agg (aZ b.addr b.aff b.slots (.slice A b.free.length c) (.slice A' b.attrs.length c')).toArray) b := ⟨A, c, A', c', rfl, h⟩
end Go.Proofs.Ytemhalnhbgkbcaa.V
end

section
namespace Go.Proofs.Ytemhalnhbgkbcaa.V
theorem K6 (l : List Int) (i : Nat) (h : i < l.length) : rd l (i : Int) = l[i] := by simp [rd, List.getD, h]
theorem Ky (l : List Int) (hl : l.length ≤ 1000) (x : Int) (k : Nat) (hk : l.length < k) : cT.f k l x = some ((l.count x : Nat) : Int) := by
 have key : ∀ (d k i c : Nat), i + d = l.length → d < k → c ≤ i → cT.l0 k x (c : Int) l (l.length : Int) (i : Int) = some ((c + (l.drop i).count x : Nat) : Int) := by
  intro d
  induction d with
  | zero =>
   intro k i c hi hk hc
   obtain ⟨k, rfl⟩ : ∃ m, k = m + 1 := ⟨k - 1, by omega⟩
   rw [cT.l0, if_neg (by omega), List.drop_of_length_le (by omega)]
   simp
  | succ d ih =>
   intro k i c hi hk hc
   obtain ⟨k, rfl⟩ : ∃ m, k = m + 1 := ⟨k - 1, by omega⟩
   have hil : i < l.length := by omega
   rw [cT.l0, if_pos (by omega), if_pos (by omega), if_pos (by omega), K6 l i hil, iB ((i : Int) + 1) (by omega) (by omega), iB ((c : Int) + 1) (by omega) (by omega), List.drop_eq_getElem_cons hil, List.count_cons]
   by_cases h : l[i] = x
   ·rw [if_pos h, show (c : Int) + 1 = ((c + 1 : Nat) : Int) by omega, show (i : Int) + 1 = ((i + 1 : Nat) : Int) by omega, ih k (i + 1) (c + 1) (by omega) (by omega) (by omega)]
    simp [h]
    omega
   ·rw [if_neg h, show (i : Int) + 1 = ((i + 1 : Nat) : Int) by omega, ih k (i + 1) c (by omega) (by omega) (by omega)]
    simp [h]
 unfold cT.f
 rw [show (0 : Int) = ((0 : Nat) : Int) from rfl, key l.length k 0 0 (by omega) hk (by omega)]
 simp
section
variable (addr : Int) (aff : ByteArray) (sl fr : List Int) (M : List S76)
end
end Go.Proofs.Ytemhalnhbgkbcaa.V
end

section
namespace Go.Proofs.Ytemhalnhbgkbcaa.V
def oG : Nat → Bk → Bk
 | 0, c => c
 | j + 1, c => oG j (if dL c.slots j = true then c else jY c j)
theorem Di {k : IntKind} {e base : Nat} {ok : Nat → Prop} {W W1 : World} {v : Value} {xs : List Int} (h : Kd.R (Kd.int k) e W base ok v xs) {row : Option Nat} (hg : W.grownBy W1 row) (hne : ∀ q, v.ownBlock = some q → some q ≠ row) : Kd.R (Kd.int k) e W1 base ok v xs := by
 have h1 := Kd.R_flat (ok' := fun q => ok q ∧ some q = v.ownBlock) (fun {_ _ _ _} hx => hx) h (fun q hq ho => ⟨ho, hq.symm⟩)
 exact Kd.R_mono (Kd.R_grown h1 hg (fun q hq => hne q hq.2.symm)) (fun _ hq => hq.1)
theorem Cq (l : List Int) (k : Nat) : dL l k = !decide (l.count ((k + 1 : Nat) : Int) = 0) := by
 unfold dL
 rw [Bool.eq_iff_iff, List.any_eq_true]
 constructor
 ·rintro ⟨s, hs, he⟩
  rw [beq_iff_eq] at he
  subst he
  have := List.count_pos_iff.2 hs
  rw [Bool.not_eq_true', decide_eq_false_iff_not]
  omega
 ·intro h
  simp only [Bool.not_eq_true', decide_eq_false_iff_not] at h
  have : 0 < l.count ((k + 1 : Nat) : Int) := by omega
  exact ⟨_, List.count_pos_iff.1 this, by rw [beq_iff_eq]⟩
theorem Kr {b : Bk} {k : Nat} (h : nE b.slots) : nE (jY b k).slots := by
 intro x hx
 obtain ⟨s, hs, rfl⟩ := List.mem_map.1 hx
 have := h s hs
 unfold kR
 split <;> omega
theorem GF (b : Bk) (k : Nat) (h : k < b.attrs.length) : (jY b k).slots.length = b.slots.length ∧ (jY b k).free = b.free ∧ (jY b k).attrs.length + 1 = b.attrs.length := by
 refine ⟨by simp [jY], rfl, ?_⟩
 show (b.attrs.take k ++ b.attrs.drop (k + 1)).length + 1 = _
 rw [List.length_append, List.length_take, List.length_drop]
 omega
structure DropInv (bn : Bk) (k : Nat) (c : Bk) : Prop where
 eq : oG k c = oG bn.attrs.length bn
 le : k ≤ c.attrs.length
 a64 : c.attrs.length ≤ 64
 l64 : c.slots.length = 64
 s8 : nE c.slots
 fl : c.free.length ≤ 2000
theorem DropInv.ka {bn : Bk} {k : Nat} {c : Bk} (h : DropInv bn (k + 1) c) : k < c.attrs.length := by have := h.le; omega
theorem DropInv.keep {bn : Bk} {k : Nat} {c : Bk} (h : DropInv bn (k + 1) c) (hu : dL c.slots k = true) : DropInv bn k c := by
 refine ⟨?_, by have := h.le; omega, h.a64, h.l64, h.s8, h.fl⟩
 rw [← h.eq]
 show _ = oG k (if dL c.slots k = true then c else jY c k)
 rw [if_pos hu]
theorem DropInv.drop {bn : Bk} {k : Nat} {c : Bk} (h : DropInv bn (k + 1) c) (hu : dL c.slots k = false) : DropInv bn k (jY c k) := by
 obtain ⟨h1, h2, h3⟩ := GF c k h.ka
 refine ⟨?_, by have := h.le; omega, by have := h.a64; omega, by rw [h1]; exact h.l64, Kr h.s8, by rw [h2]; exact h.fl⟩
 rw [← h.eq]
 show _ = oG k (if dL c.slots k = true then c else jY c k)
 rw [if_neg (by rw [hu]; decide)]
theorem DI (b : Bk) (hl : b.slots.length = 64) (As : Option Addr) (cs : Nat) (hsr : b.slots.length ≤ cs) (k : Nat) (w : World) (hr : Kd.C (Kd.int .i64) w As b.slots.length b.slots) :
  Calls Try.prog 68 #[.slice As b.slots.length cs, .int .i64 (((k + 1 : Nat) : Int))] w fun e w' => e = .returned (.int .i64 ((b.slots.count ((k + 1 : Nat) : Int) : Nat) : Int)) ∧ Below w.heap.size w w' :=
 (cT.calls 100 As cs b.slots _ _ w hr hsr (Ky b.slots (by omega) _ 100 (by omega))).mono (by
  rintro e w' ⟨rfl, ⟨nd, rfl⟩⟩
  exact ⟨rfl, af (Below.refl _ _) nd⟩)
set_option maxHeartbeats 16000000 in
set_option maxRecDepth 100000 in
theorem pX (b : Bk) (hk : BkOk b) (hp : RightP b) (hl : b.slots.length = 64) (l : List Int) (hu : ∀ x ∈ l, 0 ≤ x ∧ x < 4294967296) (hll : l.length ≤ 1000) (Al : Option Addr) (cl : Nat) (v : Value) (w : World) (h : jd w v b) (hC : Kd.C (Kd.int .u32) w Al l.length l) :
  Calls Try.prog 84 #[v, .slice Al l.length cl] w fun e w' => ∃ v' vo, e = .returned (.tuple #[v', vo]) ∧ eG w' w.heap.size v' (oG b.attrs.length (relL b l).1) ∧ Kd.R (Kd.int .u32) 46 w' w.heap.size (fun _ => True) vo (relL b l).2 ∧ Below w.heap.size w w' := by
 obtain ⟨M, FQ, Fo, FR, Ft, FT, Fv, rfl, hr⟩ := h
 have hsum := hp.sum_le hk hl
 have hml : M.length = b.attrs.length := by rw [hr.m, List.length_map]
 have hrk := sD hk hp hl l
 have HRK := ak hrk
 have xw := ak hr.m
 have HML := ak hml
 have HR := ak hr
 have HL := ak hl
 have HK := ak hk
 have HU := ak hu
 have HC := ak hC
 have AW : M.length ≤ 64 := by omega
 have HFL := ak (show b.free.length ≤ 64 by omega)
 have HCP := ak (fun w h => zP b (by omega) (by omega) M (by omega) FQ Fo FR Ft FT Fv w h)
 have ae := ak (Below.refl w.heap.size w)
 clear hr hl hml hsum hk hp hu hC hrk
 go_enter Try.func84, Try.ntmps84
 go_wp2_with (first
  | (refine aE rfl 62 (.tmp 0) rfl _ rfl ?_; intro gX W1 J aa I; have bQ := ge ae J; have ai := ak (ae.out.trans (I.mono ae.out.size)); have ah := ak (aa); clear J aa I ae)
  | (refine aw (some 4) rfl rfl 62 rfl dG (fun _ => by kernel_rfl) ?_; intro gZ W2 J aa I; have bN := ge ai J; have aG := ne ah J; have av := mv I ai; have au := mv I ah; have bY := ak (aa); clear J aa I ai ah)
  | ((with_reducible refine ax (N := 12) rfl ?_); refine az rfl 62 (.tmp 2) rfl gX rfl _ _ _ au.out Try.underlying62 rfl 5 (by kernel_rfl) rfl ?_)
  | (go_at_call 85; refine (HCP.out _ (HR.out.below av.out)).mono ?_; rintro e W3 ⟨vs, vf, va, rfl, sR, di, dO, I⟩; obtain ⟨As, cs, rfl⟩ := Kd.R_slice sR; obtain ⟨Aa, ca, rfl⟩ := Kd.R_slice dO; obtain ⟨gs, rfl⟩ := nF sR (by have h_ := HL.out; omega); have HSP := ak (show vf.ownBlock ≠ some gs from fun e_ => sR.1 gs rfl e_.symm); obtain ⟨Af, cf, rfl⟩ := Kd.R_slice di; have HSZ := ak av.out.size; have aD := mv I av; have aA := mv I au; have bL := mv I bY; have bU := ak (Kd.R_mono (ok' := fun _ => True) sR (fun _ _ => trivial)); have cj := ak (Kd.R_mono (ok' := fun _ => True) di (fun _ _ => trivial)); have cN := ak (dO); have b7 := ak (I.size); clear sR di dO I av au bY)
  | (refine aN rfl 62 (.tmp 2) (.tmp 13) rfl gX (da b.addr b.aff (.slice (some ⟨gs, 0, none⟩) b.slots.length cs) (.slice Af b.free.length cf) (.slice Aa M.length ca)) rfl rfl 62 _ aA.out 5 (by kernel_rfl) rfl rfl (dJ _ _ rfl rfl rfl) ?_; intro W4 aa J; have aY := gb aD bQ J; have aV := ak (aa); have a8 := gm bL aG J; have cx := gr bU aA J; have ch := gr cj aA J; have cR := gr cN aA J; have bZ := ak (Nat.le_trans b7.out J.size); clear aa J aD aA bL bU cj cN b7))
 obtain ⟨b1, cy⟩ : ∃ b1, b1 = W2.heap.size := ⟨_, rfl⟩
 rw [← cy] at cx ch cR bZ HSZ
 have cn := ak (show w.heap.size ≤ b1 from HSZ.out)
 have tB := cn
 clear cy HSZ
 go_loopw [6, 8, 9, 10, 16, 20] (fun q _ _ _ u _ W => ∃ (k : Nat) (A2 : Option Addr) (c2 : Nat), k ≤ l.length ∧ u = .int .i64 k ∧ Aside0 ((Value.slice A2 (relL b (l.take k)).1.free.length c2).ownBlock ≠ some gs) ∧ Aside0 (aH W gX (da b.addr b.aff (.slice (some ⟨gs, 0, none⟩) b.slots.length cs) (.slice A2 (relL b (l.take k)).1.free.length c2) (.slice Aa M.length ca)) 62) ∧ Aside0 (Kd.R (Kd.int .i64) 3 W b1 (fun _ => True) (.slice (some ⟨gs, 0, none⟩) b.slots.length cs) (relL b (l.take k)).1.slots) ∧ Aside0 (Kd.R (Kd.int .i64) 3 W b1 (fun _ => True) (.slice A2 (relL b (l.take k)).1.free.length c2) (relL b (l.take k)).1.free) ∧ Aside0 (Kd.R g8 76 W b1 (fun _ => True) (.slice Aa M.length ca) M) ∧ Aside0 (Kd.R (Kd.int .u32) 46 W w.heap.size (fun _ => True) q (relL b (l.take k)).2) ∧ Aside0 (aH W gZ dG 62) ∧ Aside0 (b1 ≤ W.heap.size) ∧ Aside0 (Below w.heap.size w W)) (fun _ _ _ _ u _ _ => l.length - (intOf u).toNat)
 case atStart => exact ⟨0, Af, cf, by omega, rfl, HSP, aV, cx, ch, cR, ⟨Kd.R_nil _ _ _ _ _⟩, a8, bZ, aY⟩
 case round =>
  clear HSP aY aV a8 cx ch cR bZ
  obtain ⟨k, A2, c2, hk, rfl, HSP, aJ, aX, bw, bD, bF, br, gD, ae⟩ := hrel
  obtain ⟨W, rfl⟩ : ∃ W : World, W = wr := ⟨_, rfl⟩
  have hro := HRK.out k hk
  by_cases hkn : k < l.length
  ·have hkb : decide ((k : Int) < (l.length : Int)) = true := by simp; omega
   obtain ⟨ad, eA, hx⟩ := Kd.at_int (Kd.C_below HC.out ae.out) k (by omega) (by omega)
   cases eA
   rw [Int.toNat_natCast] at hx
   have p1 : ((k : Int) < (l.length : Int)) = True := eq_true (by omega)
   have hrd : rd l k = l[k] := by simp [rd, List.getD, hkn]
   have fF := HU.out _ (List.getElem_mem hkn)
   obtain ⟨x, hxx⟩ : ∃ x, l[k] = x := ⟨_, rfl⟩
   rw [hxx] at hrd fF
   rw [hrd] at hx
   have hsu := yU b l k hkn x hxx
   obtain ⟨rs, hrs⟩ : ∃ rs, rs = relL b (l.take k) := ⟨_, rfl⟩
   rw [← hrs] at hro hsu aJ aX bw bF HSP
   have hol := hro.ol
   have hfl := hro.fl
   have had := hro.addr
   have haf := hro.aff
   have hof := fun A c A' c' A2 c2 w h => oe rs.1 hro.l64 hro.s8 (by rw [hro.attrs]; exact hro.le) M A A' A2 c c' c2 w h x fF.1 fF.2
   have hmm : M = rs.1.attrs.map vc := by rw [hro.attrs]; exact xw.out
   have HSU := ak hsu
   have HLM := ak hro.l64
   obtain ⟨bm, oo⟩ := rs
   simp only at hol hfl hof aJ aX bw bF HSP HLM hmm had haf
   have hln : b.slots.length = bm.slots.length := by rw [HLM.out, HL.out]
   rw [← had, ← haf, hln] at aJ
   rw [hln] at aX
   obtain ⟨Ao, co, rfl⟩ := Kd.R_slice bF.out
   have HOF := ak hof
   have HMM := ak hmm
   have HOL := ak (show oo.length ≤ 1000 by omega)
   have HFLN := ak (show bm.free.length ≤ 2000 by have := HFL.out; omega)
   have HLN := ak hln
   have HAD := ak (show bm.addr = b.addr from had)
   have HAF := ak (show bm.aff = b.aff from haf)
   clear hro hrs hrd hxx hsu hol hfl hof hmm had haf hln
   cases hh : gw bm x with
   | false =>
    have HH := ak hh
    have HEQ := ak (show relL b (l.take (k + 1)) = (bm, oo) by rw [HSU.out]; unfold relF; rw [if_neg (by rw [hh]; decide)])
    clear hh
    go_wp2_with (first
     | ((with_reducible refine ax (N := 21) rfl ?_); refine az rfl 62 (.tmp 2) rfl gX rfl _ _ _ aJ.out Try.underlying62 rfl 5 (by kernel_rfl) rfl ?_)
     | (go_at_call 62; refine (HOF.out _ _ _ _ _ _ _ (jd.of HMM.out aX.out bw.out bD.out)).mono ?_; rintro e W1 ⟨rfl, I⟩; rw [HH.out]; have ah := mv I aJ; have bd := mv I aX; have bp := mv I bw; have bH := mv I bD; have cr := mv I bF; have bM := mv I br; have iG := ak (Nat.le_trans gD.out I.size); have ai := ak (ae.out.trans (I.mono ae.out.size)); clear I aJ aX bw bD bF br gD ae)
     | (refine aw (some 9) rfl rfl 76 rfl [.string ⟨#[]⟩, .string ⟨#[]⟩] (fun _ => by kernel_rfl) ?_; intro gV W2 J aa I; have df := ge ai J; have fx := ne ah J; have jZ := ne bM J; have au := mv I ah; have bC := mv I bd; have bT := mv I bp; have b9 := ak (Kd.R_mono (ok' := fun k_ => k_ ≠ gV) (Kd.R_below (Kd.R_bound bH.out) I) (fun k_ cD e_ => by have h_ := cD.2.2.1; omega)); have cC := mv I cr; have bY := mv I bM; have b8 := ak (Nat.le_trans iG.out I.size); have av := mv I ai; have dc := ak (aa); clear J aa I ah bd bp bH cr bM iG ai)
     | (refine aN rfl 76 (.tmp 9) (.tmp 24) rfl gV [.string (kb bm x).f0, .string (kb bm x).f1] rfl rfl 76 _ dc.out 2 (by kernel_rfl) rfl rfl (g9 (kb bm x)) ?_; intro W3 aa J; have aA := gx au dc J; have bU := gr bC dc J; have cj := gr bT dc J; have cN := ak (Kd.R_mono (ok' := fun _ => True) (Kd.R_grown b9.out J (fun k_ cD e_ => cD (Option.some.inj e_))) (fun _ _ => trivial)); have eT := gr cC dc J; have bL := gx bY dc J; have b7 := ak (Nat.le_trans b8.out J.size); have aD := gb av df J; have mB := ak (aa); clear aa J au bC bT b9 cC bY b8 av dc))
    go_roundw
    case rel => exact ⟨k + 1, A2, c2, by omega, by go_num, ⟨by rw [HEQ.out]; exact HSP.out⟩, ⟨by rw [HEQ.out, ← HAD.out, ← HAF.out, HLN.out]; exact aA.out⟩, ⟨by rw [HEQ.out, HLN.out]; exact bU.out⟩, ⟨by rw [HEQ.out]; exact cj.out⟩, cN, ⟨by rw [HEQ.out]; exact eT.out⟩, bL, b7, aD⟩
    case measure => simp [intOf]; omega
   | true =>
    have HH := ak hh
    obtain ⟨R1, R0, oY, _⟩ := uo hh
    obtain ⟨j, hj⟩ : ∃ j : Nat, x - bm.addr = (j : Int) := ⟨(x - bm.addr).toNat, by omega⟩
    have HEQ := ak (show relL b (l.take (k + 1)) = (⟨bm.addr, bm.aff, bm.slots.set j 0, bm.free ++ [(j : Int)], bm.attrs⟩, oo ++ [x]) by
     rw [HSU.out]
     unfold relF
     rw [if_pos hh]
     show (_, _) = (_, _)
     rw [hj]
     rfl)
    have hjm : x % 64 = (j : Int) := by unfold bV at oY; omega
    have hjt : x.tmod 64 = (j : Int) := by rw [Int.tmod_eq_emod_of_nonneg fF.1]; exact hjm
    have mW : j < 64 := by omega
    have HJ := ak (show j < bm.slots.length by rw [HLM.out]; exact mW)
    have pj : ((j : Int) < (bm.slots.length : Int)) = True := eq_true (by have := HJ.out; omega)
    have vT : gX ≠ gs := fun e_ => (aJ.out.ne_row aX.out (by decide)) (by rw [e_]; rfl)
    have DQ : gs ≠ gX := fun e_ => vT e_.symm
    have HGS := ak (show gs < W.heap.size from Kd.R_lt aX.out gs rfl)
    obtain ⟨fr, hfr⟩ : ∃ fr, fr = bm.free ++ [(j : Int)] := ⟨_, rfl⟩
    obtain ⟨o1, fw⟩ : ∃ o1, o1 = oo ++ [x] := ⟨_, rfl⟩
    rw [← hfr, ← fw] at HEQ
    have HFR := ak hfr
    have kA := ak fw
    clear hh R1 R0 oY hj hfr fw
    go_wp2_with (first
     | ((with_reducible refine ax (N := 21) rfl ?_); refine az rfl 62 (.tmp 2) rfl gX rfl _ _ _ aJ.out Try.underlying62 rfl 5 (by kernel_rfl) rfl ?_)
     | (go_at_call 62; refine (HOF.out _ _ _ _ _ _ _ (jd.of HMM.out aX.out bw.out bD.out)).mono ?_; rintro e W1 ⟨rfl, I⟩; rw [HH.out]; have ah := mv I aJ; have bd := mv I aX; have bp := mv I bw; have bH := mv I bD; have cr := mv I bF; have bM := mv I br; have iG := ak (Nat.le_trans gD.out I.size); have ai := ak (ae.out.trans (I.mono ae.out.size)); clear I aJ aX bw bD bF br gD ae)
     | (refine aw (some 9) rfl rfl 76 rfl [.string ⟨#[]⟩, .string ⟨#[]⟩] (fun _ => by kernel_rfl) ?_; intro gV W2 J aa I; have df := ge ai J; have fx := ne ah J; have jZ := ne bM J; have au := mv I ah; have bC := mv I bd; have bT := mv I bp; have b9 := ak (Kd.R_mono (ok' := fun k_ => k_ ≠ gV) (Kd.R_below (Kd.R_bound bH.out) I) (fun k_ cD e_ => by have h_ := cD.2.2.1; omega)); have cC := mv I cr; have bY := mv I bM; have b8 := ak (Nat.le_trans iG.out I.size); have av := mv I ai; have dc := ak (aa); clear J aa I ah bd bp bH cr bM iG ai)
     | (refine aN rfl 76 (.tmp 9) (.tmp 24) rfl gV [.string (kb bm x).f0, .string (kb bm x).f1] rfl rfl 76 _ dc.out 2 (by kernel_rfl) rfl rfl (g9 (kb bm x)) ?_; intro W3 aa J; have aA := gx au dc J; have bU := gr bC dc J; have cj := gr bT dc J; have cN := ak (Kd.R_mono (ok' := fun _ => True) (Kd.R_grown b9.out J (fun k_ cD e_ => cD (Option.some.inj e_))) (fun _ _ => trivial)); have eT := gr cC dc J; have bL := gx bY dc J; have b7 := ak (Nat.le_trans b8.out J.size); have aD := gb av df J; have mB := ak (aa); have jX := aA.out.cell 2 _ rfl; have ot := aA.out.cell 3 _ rfl; have lF := (ln bU.out j HJ.out).1; have te := (ln bU.out j HJ.out).2; clear aa J au bC bT b9 cC bY b8 av dc)
     | ((with_reducible refine cz (b := .append) (xs := #[.tmp 33, .tmp 37]) rfl ?_); at_builtin; generalize bR : W3.setCell ⟨gs, j, none⟩ (.int .i64 0) = W4; have lE : W3.heap.size = W4.heap.size := (by rw [← bR]; simp [World.setCell]); have J : W3.grownBy W4 (some gs) := (by rw [← bR]; exact (mQ bU.out j HJ.out 0).2); have aV := ak (aA.out.grown J (aA.out.ne_row bU.out (by decide))); have cx := ak ((mQ bU.out j HJ.out 0).1); have ch := ak (Di cj.out J (fun q_ e8 e_ => HSP.out (by rw [e8, e_]))); have cR := ak (Kd.R_over cN.out bU.out (by decide) J); have l7 := ak (Kd.R_over eT.out bU.out (by decide) J); have a8 := ak (bL.out.grown J (bL.out.ne_row bU.out (by decide))); have bZ := ak (Nat.le_trans b7.out J.size); have aY := ak (aD.out.grown J aD.out.size (by intro k hk; cases hk; exact Nat.le_trans tB.out (Kd.R_base bU.out gs rfl))); rw [bR] at cx; clear bR J aA bU cj cN eT bL b7 aD jX ot lF te; have zt := ak (show bm.slots.length = (bm.slots.set j 0).length by rw [List.length_set]); have Py := ak (show gs < W4.heap.size from Kd.R_lt cx.out gs rfl); refine Kd.R_append (Kd.int .i64) (w0 := W4) b1 rfl (.tmp 33) (.tmp 37) 31 3 (.int .i64 0) 8 rfl Try.underlying31 AR rfl (by decide) (by omega) _ bm.free (j : Int) [.int .i64 (j : Int)] (fun _ => True) (fun _ => False) rfl (congrArg (fun n_ => Value.slice (some ⟨n_, 0, none⟩) 1 1) lE) rfl (fun _ hk => hk.elim) (fun _ _ => trivial) ch.out (Below.refl _ _) bZ.out (by have := HFLN.out; omega) ?_; intro v_ W5 aW I J fm; rw [← HFR.out] at aW; have Pq := ak (show v_.ownBlock ≠ some gs from fun e_ => by rcases fm with h_ | ⟨b_, h_, Bl⟩; (· exact HSP.out (h_.symm.trans e_)); (· have Ux := Option.some.inj (h_.symm.trans e_); have Hq := Py.out; omega)); have bb := ak (aV.out.grown J (aV.out.ne_row ch.out (by decide))); have cJ := ak (Di cx.out J (fun q_ e8 e_ => HSP.out (e_.symm.trans e8.symm))); have cb := ak (aW); have cG := ak (Kd.R_over cR.out ch.out (by decide) J); have Ea := ak (Kd.R_over l7.out ch.out (by decide) J); have bu := ak (a8.out.grown J (a8.out.ne_row ch.out (by decide))); have cB := ak (Nat.le_trans bZ.out J.size); have bf := ak (aY.out.trans (I.mono cn.out)); obtain ⟨AF, cF, rfl⟩ := Kd.R_slice aW; have MP := bb.out.cell 3 _ rfl; have MO := bb.out.frozen 3; clear aW I J fm lE aV cx ch cR l7 a8 bZ aY)
     | ((with_reducible refine cz (b := .append) (xs := #[.tmp 40, .tmp 42]) rfl ?_); at_builtin; generalize bR : W5.setCell ⟨gX, 3, none⟩ (.slice AF fr.length cF) = W6; have lE : W5.heap.size = W6.heap.size := (by rw [← bR]; simp [World.setCell]); have J : W5.grownBy W6 (some gX) := (by rw [← bR]; exact bO _ _ _ _); have bh := ak (bb.out.set 3 (.slice AF fr.length cF)); have cY := gr cJ bb J; have cQ := gr cb bb J; have dD := gr cG bb J; have mF := gr Ea bb J; have bS := gm bu aG J; have cX := ak (Nat.le_trans cB.out J.size); have bG := gb bf bQ J; rw [bR] at bh; clear bR J bb cJ cb cG Ea bu cB bf MP MO; refine Kd.R_append (Kd.int .u32) (w0 := w) w.heap.size rfl (.tmp 40) (.tmp 42) 77 46 (.int .u32 0) 4 rfl Try.underlying77 iL rfl (by decide) (by omega) _ oo x [.int .u32 x] (fun _ => True) (fun _ => False) rfl (congrArg (fun n_ => Value.slice (some ⟨n_, 0, none⟩) 1 1) lE) rfl (fun _ hk => hk.elim) (fun _ _ => trivial) mF.out bG.out bG.out.size (by have := HOL.out; omega) ?_; intro v_ W7 aW I J fm; rw [← kA.out] at aW; have dj := ak (bh.out.grown J (bh.out.ne_row mF.out (by decide))); have fN := ak (Kd.R_over cY.out mF.out (by decide) J); have eZ := ak (Kd.R_over cQ.out mF.out (by decide) J); have jF := ak (Kd.R_over dD.out mF.out (by decide) J); have mE := ak (aW); have dz := ak (bS.out.grown J (bS.out.ne_row mF.out (by decide))); have iN := ak (Nat.le_trans cX.out J.size); have dU := ak (I); obtain ⟨AO, cO, rfl⟩ := Kd.R_slice aW; clear aW I J fm lE bh cY cQ dD mF bS cX bG))
    go_roundw
    case rel => exact ⟨k + 1, AF, cF, by omega, by go_num, ⟨by rw [HEQ.out]; exact Pq.out⟩, ⟨by rw [HEQ.out, ← HAD.out, ← HAF.out, HLN.out]; exact dj.out⟩, ⟨by rw [HEQ.out, HLN.out]; exact fN.out⟩, ⟨by rw [HEQ.out]; exact eZ.out⟩, jF, ⟨by rw [HEQ.out]; exact mE.out⟩, dz, iN, dU⟩
    case measure => simp [intOf]; omega
  ·obtain rfl : k = l.length := by omega
   have hkb : decide ((l.length : Int) < (l.length : Int)) = false := by simp
   rw [List.take_of_length_le (Nat.le_refl l.length)] at hro aJ aX bw bF
   obtain ⟨bn, hbn⟩ : ∃ bn, bn = (relL b l).1 := ⟨_, rfl⟩
   obtain ⟨on, hon⟩ : ∃ on, on = (relL b l).2 := ⟨_, rfl⟩
   have HBN := ak hbn
   have HON := ak hon
   rw [← hbn] at aJ aX bw
   rw [← hon] at bF
   obtain ⟨Ao, co, rfl⟩ := Kd.R_slice bF.out
   have HMA := ak (show M = bn.attrs.map vc by rw [hbn, hro.attrs]; exact xw.out)
   have GZ := ak (show M.length = bn.attrs.length by rw [HMA.out, List.length_map])
   have had : b.addr = bn.addr := by rw [hbn, hro.addr]
   have haf : b.aff = bn.aff := by rw [hbn, hro.aff]
   have hln : b.slots.length = bn.slots.length := by rw [hbn, hro.l64, HL.out]
   have OK := ak (show DropInv bn bn.attrs.length bn from ⟨rfl, Nat.le_refl _, by rw [← GZ.out]; exact AW, by rw [hbn]; exact hro.l64, by rw [hbn]; exact hro.s8, by have := HFL.out; have h_ := hro.fl; rw [← hbn] at h_; omega⟩)
   rw [had, haf, hln] at aJ
   rw [hln] at aX
   obtain ⟨Mn, hMn⟩ : ∃ Mn, Mn = M.length := ⟨_, rfl⟩
   have HMN := ak hMn
   have LI : Mn ≤ 64 := by omega
   have mA := aJ.out.cell 4 _ rfl
   have HXN := ak (show RX W w.heap.size gX bn from ⟨M, _, _, _, HMA.out, aJ.out, Kd.R_lower aX.out cn.out, Kd.R_lower bw.out cn.out, Kd.R_lower bD.out cn.out⟩)
   rw [← hMn] at mA
   clear hbn hon hro had haf hln aJ aX bw bD gD hMn AW
   go_wp2_with fail
   go_loopw [11] (fun u W => ∃ (z : Int) (k : Nat) (bm : Bk), u = .int .i64 z ∧ z = (k : Int) - 1 ∧ k ≤ 64 ∧ Aside0 (DropInv bn k bm) ∧ Aside0 (RX W w.heap.size gX bm) ∧ Aside0 (Kd.R (Kd.int .u32) 46 W w.heap.size (fun _ => True) (.slice Ao on.length co) on) ∧ Aside0 (aH W gZ dG 62) ∧ Aside0 (Below w.heap.size w W)) (fun u _ => (intOf u + 1).toNat)
   case atStart => exact ⟨_, Mn, bn, rfl, rfl, LI, ⟨by rw [HMN.out, GZ.out]; exact OK.out⟩, HXN, bF, br, ae⟩
   case round =>
    clear HXN bF br ae OK mA HMN LI
    obtain ⟨z, k, bm, rfl, hz, TU, HDI, aJ, bF, br, ae⟩ := hrel
    obtain ⟨W, rfl⟩ : ∃ W : World, W = wr := ⟨_, rfl⟩
    obtain ⟨M2, vs, vf, va, sS, hx, hs, hf, ha⟩ := aJ.out
    obtain ⟨As, cs, rfl, lS, cS⟩ := Kd.R_reads hs
    obtain ⟨Af, cf, rfl⟩ := Kd.R_slice hf
    obtain ⟨Aa, ca, rfl⟩ := Kd.R_slice ha
    have gl := ak hx
    have xf := ak hs
    have kN := ak hf
    have uQ := ak ha
    have Ds := ak cS
    have zs := ak sS
    have jX := hx.cell 2 _ rfl
    clear sS hx hs hf ha cS aJ
    rcases k with _ | k
    ·obtain rfl : z = -1 := by omega
     have hkb : decide ((0 : Int) ≤ -1) = false := by decide
     clear hz
     have HE := ak (show oG b.attrs.length (relL b l).1 = bm by have h_ := HDI.out.eq; rw [← HBN.out, ← HML.out, GZ.out, ← h_]; rfl)
     go_wp2_with (first
      | ((with_reducible refine ax (N := 62) rfl ?_); refine az rfl 62 (.tmp 2) rfl gX rfl _ _ _ gl.out Try.underlying62 rfl 5 (by kernel_rfl) rfl ?_)
      | (refine aN rfl 62 (.tmp 4) (.tmp 62) rfl gZ (da bm.addr bm.aff (.slice As bm.slots.length cs) (.slice Af bm.free.length cf) (.slice Aa M2.length ca)) rfl rfl 62 _ br.out 5 (by kernel_rfl) rfl rfl (dJ _ _ rfl rfl rfl) ?_; intro W1 aa J; have ah := gn gl aG J; have bd := gr xf br J; have bp := gr kN br J; have bH := gr uQ br J; have cr := gr bF br J; have bM := ak (aa); have ai := gb ae bN J; clear aa J gl xf kN uQ bF br ae jX))
     refine bodyPost_ret (eU rfl _ _ gZ 62 _ (0, 0) _ rfl bM.out Try.underlying62 rfl (by kernel_rfl)) rfl ⟨_, _, rfl, ?_, by rw [← HON.out]; exact cr.out, ai.out⟩
     rw [HE.out]
     exact ⟨_, _, _, rfl, bd.out, bp.out, by rw [← zs.out]; exact bH.out⟩
    ·obtain rfl : z = (k : Int) := by omega
     have hkb : decide ((0 : Int) ≤ (k : Int)) = true := by simp
     clear hz
     have hdi := HDI.out
     obtain ⟨c, hc⟩ : ∃ c, c = bm.slots.count ((k + 1 : Nat) : Int) := ⟨_, rfl⟩
     have HCT := ak (fun w h => DI bm hdi.l64 As cs lS k w h)
     rw [← hc] at HCT
     have HUC := ak (show dL bm.slots k = !decide (c = 0) by rw [hc]; exact Cq _ _)
     have HC := ak (show c ≤ 64 by rw [hc]; have := List.count_le_length (a := ((k + 1 : Nat) : Int)) (l := bm.slots); have h_ := hdi.l64; omega)
     clear hc lS
     by_cases lT : c = 0
     ·have hcb : decide ((c : Int) = 0) = true := by subst lT; rfl
      have HU := ak (show dL bm.slots k = false by rw [HUC.out, lT]; rfl)
      have HDR := ak (fun v w h => GH bm hdi.l64 hdi.s8 (by have := hdi.fl; omega) (by have := hdi.a64; omega) k hdi.ka v w h)
      have HDN := ak (show DropInv bn k (jY bm k) from hdi.drop HU.out)
      clear hdi
      go_wp2_with (first
       | (go_at_call 68; refine (HCT.out _ Ds.out).mono ?_; rintro e W1 ⟨rfl, I⟩; have ah := mv I gl; have bd := mv I xf; have bp := mv I kN; have bH := mv I uQ; have cr := mv I bF; have bM := mv I br; have ai := ak (ae.out.trans (I.mono ae.out.size)); clear I gl xf kN uQ bF br ae jX)
       | ((with_reducible refine ax (N := 59) rfl ?_); refine az rfl 62 (.tmp 2) rfl gX rfl _ _ _ ah.out Try.underlying62 rfl 5 (by kernel_rfl) rfl ?_)
       | (go_at_call 108; refine (HDR.out _ _ ⟨M2, As, cs, Af, cf, Aa, ca, rfl, jd.of zs.out bd.out bp.out bH.out⟩).mono ?_; rintro e W2 ⟨v9, rfl, fC, I⟩; have HSZ := ak ai.out.size; obtain ⟨nb, hnb⟩ : ∃ nb, nb = jY bm k := ⟨_, rfl⟩; rw [← hnb] at fC; have HNB := ak hnb; obtain ⟨tT, qE, qF, rfl, fZ, fb, ep⟩ := fC; obtain ⟨A7, c7, rfl⟩ := Kd.R_slice fZ; obtain ⟨A8, c8, rfl⟩ := Kd.R_slice fb; obtain ⟨NM, hNM⟩ : ∃ NM, NM = nb.attrs.map vc := ⟨_, rfl⟩; rw [← hNM] at ep; have HNM := ak hNM; obtain ⟨A9, c9, rfl⟩ := Kd.R_slice ep; have au := mv I ah; have bC := ak (Kd.R_lower fZ HSZ.out); have bT := ak (Kd.R_lower fb HSZ.out); have b9 := ak (Kd.R_lower ep HSZ.out); have cC := mv I cr; have bY := mv I bM; have av := mv I ai; clear hNM hnb fZ fb ep I ah bd bp bH cr bM ai)
       | (refine aN rfl 62 (.tmp 2) (.tmp 61) rfl gX (da nb.addr nb.aff (.slice A7 nb.slots.length c7) (.slice A8 nb.free.length c8) (.slice A9 NM.length c9)) rfl rfl 62 _ au.out 5 (by kernel_rfl) rfl rfl (dJ _ _ rfl rfl rfl) ?_; intro W3 aa J; have aA := ak (aa); have bU := gr bC au J; have cj := gr bT au J; have cN := gr b9 au J; have eT := gr cC au J; have bL := gm bY aG J; have aD := gb av bQ J; clear aa J au bC bT b9 cC bY av))
      go_roundw
      case rel => exact ⟨_, k, nb, rfl, rfl, by omega, ⟨by rw [HNB.out]; exact HDN.out⟩, ⟨NM, _, _, _, HNM.out, aA.out, bU.out, cj.out, cN.out⟩, eT, bL, aD⟩
      case measure => simp [intOf] <;> omega
     ·have hcb : decide ((c : Int) = 0) = false := by simp; omega
      have HDN := ak (show DropInv bn k bm from hdi.keep (by rw [HUC.out]; simp [lT]))
      clear hdi
      go_wp2_with (first
       | (go_at_call 68; refine (HCT.out _ Ds.out).mono ?_; rintro e W1 ⟨rfl, I⟩; have ah := mv I gl; have bd := mv I xf; have bp := mv I kN; have bH := mv I uQ; have cr := mv I bF; have bM := mv I br; have ai := ak (ae.out.trans (I.mono ae.out.size)); clear I gl xf kN uQ bF br ae jX))
      go_roundw
      case rel => exact ⟨_, k, bm, rfl, rfl, by omega, HDN, ⟨M2, _, _, _, zs.out, ah.out, bd.out, bp.out, bH.out⟩, cr, bM, ai⟩
      case measure => simp [intOf] <;> omega
end Go.Proofs.Ytemhalnhbgkbcaa.V
end

