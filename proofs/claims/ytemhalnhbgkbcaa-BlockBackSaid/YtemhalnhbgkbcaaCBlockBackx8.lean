/- The law BlockBack for every input: texts of ours, put together (part 9 of 16). No further condition. -/
import Derived.Test.YtemhalnhbgkbcaaCBlockBackx2
import Derived.Test.YtemhalnhbgkbcaaCBlockBackx6
import Derived.Test.YtemhalnhbgkbcaaCBlockBackx7
import Derived.Outline
import Derived.Test.YtemhalnhbgkbcaaCBlockBackx5
import Derived.Test.YtemhalnhbgkbcaaCBlockBackx4
import Derived.Test.YtemhalnhbgkbcaaCBlockBackx3
import Derived.Lib.ConvBytes
import Derived.Lib.AtoiErrMem
import Derived.Laws.CopyRow
import Derived.Laws.IdiomCopy
import Derived.Test.YtemhalnhbgkbcaaCBlockBackw0
import Derived.ArgAppend
import Derived.Lib.SlBytesConst
set_option linter.unusedVariables false
set_option linter.unusedSimpArgs false
open Go.RowKit Go.Proofs.YtemhalnhbgkbcaaW.PrintWords Go.Proofs.YtemhalnhbgkbcaaW.PrintLast Go.Proofs.YtemhalnhbgkbcaaW.PrintMore Go.Proofs.Ytemhalnhbgkbcaa.Z
section
namespace Go.Proofs.Ytemhalnhbgkbcaa.V
theorem uL (xs : List Int) (A : Option Addr) (c m : Nat) (w : World) (hr : Kd.C (Kd.int .u8) w A xs.length xs) (hm : m ≤ xs.length) (hc : xs.length ≤ c) (hl : xs.length ≤ 4294967296) (A' : Option Addr) (hA : A' = if c = m then A else A.map (fun x => x.add m)) :
  Calls Try.prog 91 #[.slice A' (xs.length - m) (c - m)] w fun e w' => ∃ v, e = .returned v ∧ Kd.R (Kd.int .u8) 5 w' w.heap.size (fun _ => True) v (xs.drop m) ∧ Below w.heap.size w w' := by
 subst hA
 have h := Kd.C_drop hr hm hc
 have hld : (xs.drop m).length = xs.length - m := List.length_drop
 have h2 := Dx (xs.drop m) _ (c - m) w h (by omega) (by omega)
 rw [hld] at h2
 have e : (A.map fun x => x.add (m * (Kd.int .u8).sz)) = A.map fun x => x.add m := by
  cases A with
  | none => rfl
  | some ad => show some (ad.add (m * 1)) = some (ad.add m); rw [Nat.mul_one]
 rw [e] at h2
 exact h2
theorem iM : (Try.prog.info? 46).map (fun i => (i.zero, i.size, i.bytes)) = some (some (.int .u32 0), 1, 4) := by kernel_rfl
set_option maxHeartbeats 16000000 in
set_option maxRecDepth 100000 in
theorem Db (b : Bk) (hk : BkOk b) (m : Nat) (mE : m < b.free.length) (a : At) (hrt : dy b = true) (hm : eP a = true) (v : Value) (w : World) (h : gi w v b) :
  Calls Try.prog 49 #[v, .int .i64 (m : Int), et a] w fun e w' => ∃ v' vo, e = .returned (.tuple #[v', vo, .int .i64 0]) ∧ ee w' w.heap.size v' (di b m a) ∧ Kd.R (Kd.int .u32) 46 w' w.heap.size (fun _ => True) vo (dK b m) ∧ Below w.heap.size w w' := by
 obtain ⟨A, c, A', c', rfl, hr⟩ := h
 have hp := iA hrt
 have hsum := hp.sum_le hk hr.l64
 have HL := ak hr.l64
 have HR := ak hr
 have HK := ak hk
 have HRT := ak hrt
 have HMY := ak hm
 have HP := ak hp
 have hfl : b.free.length ≤ 64 := by omega
 have HCP := ak (ml b (by omega) (by omega))
 have ae := ak (Below.refl w.heap.size w)
 have HSUM := ak hsum
 clear hr hk hrt hm hp hsum
 go_enter Try.func49, Try.ntmps49
 go_wp2_with (first
  | (refine aE rfl 57 (.tmp 0) rfl _ rfl ?_; intro gX W1 J aa I; have bS := ge ae J; have aj := ak (ae.out.trans (I.mono ae.out.size)); have ah := ak (aa); clear J aa I ae)
  | (refine aE rfl 85 (.tmp 2) rfl _ rfl ?_; intro gA W2 J aa I; have kj := ge aj J; have eJ := ne ah J; have aw := mv I aj; have au := mv I ah; have bU := ak (aa); clear J aa I aj ah)
  | (refine ax (some 6) rfl rfl 57 rfl a7 bJ ?_; intro gZ W3 J aa I; have bO := ge aw J; have aG := ne au J; have gh := ne bU J; have aD := mv I aw; have aA := mv I au; have cR := mv I bU; have bQ := ak (aa); clear J aa I aw au bU)
  | ((with_reducible refine av (N := 12) rfl ?_); refine ay rfl 57 (.tmp 3) rfl gX rfl _ _ _ aA.out Try.underlying57 rfl 68 (by kernel_rfl) (ag _ _ _ _ _ HL.out) ?_)
  | (go_at_call 48; refine (dW b HK.out _ _ ⟨A, c, A', c', rfl, HR.out.below aD.out⟩).mono ?_; rintro e W4 ⟨rfl, I⟩; rw [HRT.out]; have aW := mv I aD; have aV := mv I aA; have dd := mv I cR; have bb := mv I bQ; clear I aD aA cR bQ)
  | ((with_reducible refine av (N := 16) rfl ?_); refine fo (by rfl) ?_; refine ay rfl 85 (.tmp 5) rfl gA rfl _ _ _ dd.out Try.underlying85 rfl 2 (by kernel_rfl) rfl ?_)
  | (go_at_call 88; refine (jF a _).mono ?_; rintro e W5 ⟨rfl, I⟩; rw [HMY.out]; have bf := mv I aW; have a9 := mv I aV; have eg := mv I dd; have bu := mv I bb; clear I aW aV dd bb)
  | ((with_reducible refine av (N := 25) rfl ?_); refine ay rfl 57 (.tmp 3) rfl gX rfl _ _ _ a9.out Try.underlying57 rfl 68 (by kernel_rfl) (ag _ _ _ _ _ HL.out) ?_)
  | (go_at_call 89; refine (HCP.out _ _ ⟨A, c, A', c', rfl, HR.out.below bf.out⟩).mono ?_; rintro e W6 ⟨v5, rfl, uE, I⟩; obtain ⟨uG, vf, va, rfl, lT, lX⟩ := uE; obtain ⟨Af, cf, rfl⟩ := Kd.R_slice lT; obtain ⟨Aa, ca, rfl⟩ := Kd.R_slice lX; have HSZ := ak bf.out.size; have tI := ak (show gX < W5.heap.size from a9.out.lt); have nQ := ak (show gA < W5.heap.size from eg.out.lt); have nP := ak (show gZ < W5.heap.size from bu.out.lt); have bD := mv I bf; have bj := mv I a9; have e6 := mv I eg; have bT := mv I bu; have cI := ak (lT); have dx := ak (lX); have dm := ak (I.size); clear uG lT lX I bf a9 eg bu)
  | (refine aN rfl 57 (.tmp 3) (.tmp 26) rfl gX (aX b.addr b.aff b.slots (.slice Af b.free.length cf) (.slice Aa b.attrs.length ca)) rfl rfl 57 _ bj.out 68 (by kernel_rfl) (ag _ _ _ _ _ HL.out) (ag _ _ _ _ _ HL.out) (bZ _ _ _ _ _ rfl rfl) ?_; intro W7 aa J; have dR := gb bD bS J; have df := ak (OC.stored HL.out bj.out aa cI.out dx.out J); have iH := gx e6 bj J; have dI := gm bT aG J; have eS := gr cI bj J; have iz := gr dx bj J; have fQ := ak (Nat.le_trans dm.out J.size); have mX := aa.cell 66 _ (fR _ _ _ _ _ HL.out); have MY : b.free.length ≤ cf := (Kd.R_reads' eS.out).2.1; clear aa J bD bj e6 bT cI dx dm))
 clear mX
 obtain ⟨b1, cA⟩ : ∃ b1, b1 = W5.heap.size := ⟨_, rfl⟩
 rw [← cA] at df eS fQ tI nQ nP HSZ
 have cn := ak (show w.heap.size ≤ b1 from HSZ.out)
 clear cA HSZ
 have hmf : m ≤ b.free.length := by omega
 go_loopw [9, 11, 36] (fun o _ i W => ∃ k : Nat, k ≤ m ∧ i = .int .i64 k ∧ Aside0 (OC W b1 gX (dY b k a)) ∧ Aside0 (Kd.R (Kd.int .u32) 46 W w.heap.size (fun _ => True) o (dK b k)) ∧ Aside0 (aH W gA [.string a.f0, .string a.f1] 85) ∧ Aside0 (aH W gZ a7 57) ∧ Aside0 (Kd.R (Kd.int .u8) 5 W b1 (fun _ => True) (.slice Af b.free.length cf) b.free) ∧ Aside0 (b1 ≤ W.heap.size) ∧ Aside0 (Below w.heap.size w W)) (fun _ _ i _ => m - (intOf i).toNat)
 case atStart => exact ⟨0, by omega, rfl, df, ⟨Kd.R_nil _ _ _ _ _⟩, iH, dI, eS, fQ, dR⟩
 case round =>
  clear dR df iH dI eS fQ
  obtain ⟨k, hk, rfl, aI, bx, eO, bA, bl, aZ, ae⟩ := hrel
  obtain ⟨W, rfl⟩ : ∃ W : World, W = wr := ⟨_, rfl⟩
  by_cases hkn : k < m
  ·have hkb : decide ((k : Int) < (m : Int)) = true := by simp; omega
   have hkf : k < b.free.length := by omega
   obtain ⟨ad, eA, hx⟩ := Kd.at_int (Kd.R_reads' bl.out).2.2 k (by omega) (by omega)
   cases eA
   rw [Int.toNat_natCast] at hx
   obtain ⟨j, hj⟩ : ∃ j : Nat, rd b.free k = (j : Int) := ⟨(rd b.free k).toNat, by have := (mZ HK.out.f8 k).1; omega⟩
   have ph : j < 64 := by
    have h1 := HP.out.fr k hkf
    unfold jl at h1
    rw [Bool.or_eq_false_iff, decide_eq_false_iff_not] at h1
    have := h1.1
    omega
   rw [hj] at hx
   have HSC := ak (show dY b (k + 1) a = ⟨(dY b k a).addr, (dY b k a).aff, (dY b k a).slots.set (rd b.free k).toNat (en (dY b k a).attrs a : Nat), (dY b k a).free, ea (dY b k a).attrs a⟩ from oV b k a hkf)
   have HSO := ak (mY b k hkf)
   rw [hj] at HSC HSO
   rw [Int.toNat_natCast] at HSC
   have hol := gq b k (by omega)
   have HOL := ak hol
   have HAL := ak (show (dY b k a).attrs.length ≤ 100 by
    have := pN b.attrs a
    have := HSUM.out
    show (if k = 0 then b.attrs else ea b.attrs a).length ≤ 100
    split <;> omega)
   obtain ⟨bm, hbm⟩ : ∃ bm, bm = dY b k a := ⟨_, rfl⟩
   have hadr : bm.addr = b.addr := by rw [hbm]; rfl
   have HADR := ak hadr
   clear hadr
   rw [← hbm] at aI HSC HAL
   obtain ⟨oo, hoo⟩ : ∃ oo, oo = dK b k := ⟨_, rfl⟩
   obtain ⟨o1, fh⟩ : ∃ o1, o1 = dK b (k + 1) := ⟨_, rfl⟩
   rw [← hoo] at bx HSO HOL
   rw [← fh, ← HADR.out] at HSO
   have kk := ak fh
   have zC : 0 ≤ bm.addr := by rw [HADR.out]; exact HK.out.a0
   have kQ : bm.addr + 64 ≤ 4294967296 := by
    rw [HADR.out]
    have h1 := HP.out.first
    have h2 := HK.out.a1
    unfold bN at h1
    omega
   clear hol hj hbm hoo fh
   obtain ⟨Ao, co, rfl⟩ := Kd.R_slice bx.out
   go_wp2_with (first
    | ((with_reducible refine av (N := 41) rfl ?_); refine ay rfl 85 (.tmp 5) rfl gA rfl _ _ _ eO.out Try.underlying85 rfl 2 (by kernel_rfl) rfl ?_)
    | (go_at_call 90; refine (pK bm HAL.out a gX b1 w.heap.size _ bS.out cn.out aZ.out aI.out).mono ?_; rintro e W1 ⟨rfl, aU, I, bV⟩; obtain ⟨NZ, Nq, NY, Np, jf, _, _⟩ := aI.out.open; have ah := ak (aU); have b7 := ak (Kd.R_added bx.out jf (by decide) bV); have e7 := ak (aH.added eO.out (Ne.symm eJ.out) nQ.out bV); have bR := ak (aH.added bA.out (Ne.symm aG.out) nP.out bV); have bg := ak (Kd.R_added bl.out jf (by decide) bV); have bd := ak (Nat.le_trans aZ.out bV.1); have aj := ak (ae.out.trans I); have mX := (show OC W1 b1 gX ⟨bm.addr, bm.aff, bm.slots, bm.free, ea bm.attrs a⟩ from ah.out).slotCell j ph; have BB := ah.out.frozen (2 + j); have BE := ah.out.addrCell; clear aU I bV jf aI bx eO bA bl aZ ae)
    | ((with_reducible refine cC (b := .append) (xs := #[.tmp 45, .tmp 51]) rfl ?_); at_builtin; clear mX BB BE; obtain ⟨_, _, _, _, jf, _, _⟩ := ah.out.open; generalize bW : W1.setCell ⟨gX, 2 + j, none⟩ (.int .u8 (en bm.attrs a : Nat)) = W2; have mU : W1.heap.size = W2.heap.size := (by rw [← bW]; simp [World.setCell]); rw [mU]; clear mU; have J : W1.grownBy W2 (some gX) := (by rw [← bW]; exact bP _ _ _ _); have au := ak (OC.slot ah.out j ph (en bm.attrs a : Nat)); have ct := ak (bY b7.out jf (by decide) J); have bU := gm e7 eJ J; have b4 := gm bR aG J; have bM := ak (bY bg.out jf (by decide) J); have bF := ak (Nat.le_trans bd.out J.size); have aw := gb aj bS J; rw [bW] at au; clear bW J ah b7 e7 bR bg bd aj jf; refine Kd.R_append (Kd.int .u32) (w0 := w) w.heap.size rfl (.tmp 45) (.tmp 51) 77 46 (.int .u32 0) 4 rfl Try.underlying77 iM rfl (by decide) (by omega) _ oo (bm.addr + (j : Int)) [.int .u32 (bm.addr + (j : Int))] (fun _ => True) (fun _ => False) rfl rfl rfl (fun _ hk => hk.elim) (fun _ _ => trivial) ct.out aw.out aw.out.size (by have := HOL.out; omega) ?_; intro v_ W3 aU I J fu; rw [← HSO.out] at aU; have aA := ak (OC.row au.out ct.out (by decide) (by decide) J); have eN := ak (aU); have cR := ak (bU.out.grown J (bU.out.ne_row ct.out (by decide))); have bQ := ak (b4.out.grown J (b4.out.ne_row ct.out (by decide))); have cg := ak (Kd.R_over bM.out ct.out (by decide) J); have b6 := ak (Nat.le_trans bF.out J.size); have aD := ak (I); obtain ⟨AO, cO, rfl⟩ := Kd.R_slice aU; clear aU I J fu au ct bU b4 bM bF aw))
   go_roundw
   case rel => exact ⟨k + 1, by omega, by go_num, ⟨by rw [HSC.out]; exact aA.out⟩, ⟨by rw [← kk.out]; exact eN.out⟩, cR, bQ, cg, b6, aD⟩
   case measure => simp [intOf]; omega
  ·obtain rfl : k = m := by omega
   have hkb : decide ((k : Int) < (k : Int)) = false := by simp
   have hol := gq b k (by omega)
   obtain ⟨oo, hoo⟩ : ∃ oo, oo = dK b k := ⟨_, rfl⟩
   obtain ⟨bm, hbm⟩ : ∃ bm, bm = dY b k a := ⟨_, rfl⟩
   rw [← hoo] at bx hol
   rw [← hbm] at aI
   have HOO := ak hoo
   have hfr : bm.free = b.free := by rw [hbm]; rfl
   have HBK := ak (show di b k a = ⟨bm.addr, bm.aff, bm.slots, bm.free.drop oo.length, bm.attrs⟩ by rw [hol, hbm]; rfl)
   obtain ⟨Ao, co, rfl⟩ := Kd.R_slice bx.out
   obtain ⟨A1, c1, A2, c2, hxx, mW, kQ⟩ := aI.out.open
   have hqa : bm.free.length ≤ c1 := (Kd.R_reads' mW).2.1
   have hqb : oo.length ≤ bm.free.length := by rw [hfr, hol]; omega
   have hqc : bm.free.length ≤ 64 := by rw [hfr]; omega
   have HQ := ak (Kd.R_reads' mW).2.2
   have kb := ak kQ
   have HXX := ak hxx
   have HL := ak aI.out.l64
   have HWS := ak ae.out.size
   have mX := hxx.cell 66 _ (fR _ _ _ _ _ HL.out)
   have HCD := ak (fun w' (h : Kd.C (Kd.int .u8) w' A1 bm.free.length bm.free) => uL bm.free A1 c1 oo.length w' h hqb hqa (by omega) _ rfl)
   have hne : ¬ c1 = oo.length := by rw [hol]; rw [hfr] at hqa; omega
   rw [if_neg hne] at HCD
   obtain ⟨fd, hfd⟩ : ∃ fd, fd = bm.free.drop oo.length := ⟨_, rfl⟩
   rw [← hfd] at HCD HBK
   clear hxx mW kQ hol hoo hbm hfr hfd
   go_wp2_with (first
    | (go_at_call 91; refine (HCD.out _ HQ.out).mono ?_; rintro e W1 ⟨Pn, rfl, cV, I⟩; clear mX; obtain ⟨vu, uN, rfl⟩ := Kd.R_slice cV; have ah := mv I HXX; have b7 := mv I bx; have bR := mv I bA; have bd := ak (Nat.le_trans aZ.out I.size); have aj := ak (ae.out.trans (I.mono ae.out.size)); have dc := mv I kb; have od := ak (cV); have qx := ah.out.cell 66 _ (fR _ _ _ _ _ HL.out); have Br := ah.out.frozen 66; clear cV I HXX bx bA aZ ae kb)
    | (generalize bW : W1.setCell ⟨gX, 66, none⟩ (.slice vu fd.length uN) = W2; have J : W1.grownBy W2 (some gX) := (by rw [← bW]; exact bP _ _ _ _); have au := ak (ah.out.set 66 (.slice vu fd.length uN)); have ct := gr b7 ah J; have b4 := gm bR aG J; have bF := ak (Nat.le_trans bd.out J.size); have aw := gb aj bS J; have dp := gr dc ah J; have qL := gr od ah J; rw [bW] at au; clear bW J ah b7 bR bd aj dc od qx Br; rw [kW _ _ _ _ _ HL.out] at au; refine ay rfl 57 (.tmp 3) rfl gX rfl _ _ _ au.out Try.underlying57 rfl 68 (by kernel_rfl) (ag _ _ _ _ _ HL.out) ?_)
    | (refine aN rfl 57 (.tmp 6) (.tmp 61) rfl gZ (aX bm.addr bm.aff bm.slots (.slice vu fd.length uN) (.slice A2 bm.attrs.length c2)) rfl rfl 57 _ b4.out 68 (by kernel_rfl) (ag _ _ _ _ _ HL.out) rfl (bZ _ _ _ _ _ rfl rfl) ?_; intro W3 aa J; have aA := gn au aG J; have eN := gr ct b4 J; have bQ := ak (aa); have b6 := ak (Nat.le_trans bF.out J.size); have aD := gb aw bO J; have ec := gr dp b4 J; have oJ := gr qL b4 J; clear aa J au ct b4 bF aw dp qL))
   refine bodyPost_ret (iq rfl _ _ gZ 57 _ (0, 0) _ rfl bQ.out Try.underlying57 rfl (by simp only [List.size_toArray]; exact b9 _ (ag _ _ _ _ _ HL.out))) rfl ⟨_, _, rfl, ?_, ?_, aD.out⟩
   ·rw [HBK.out]; exact ⟨HL.out, _, _, rfl, Kd.R_lower oJ.out HWS.out, Kd.R_lower ec.out cn.out⟩
   ·rw [← HOO.out]; exact eN.out
set_option maxHeartbeats 16000000 in
set_option maxRecDepth 100000 in
theorem Eu (b : Bk) (hk : BkOk b) (n : Int) (hn : (b.free.length : Int) < n) (Dn : n < 9223372036854775808) (a : At) (hrt : dy b = true) (hm : eP a = true) (v : Value) (w : World) (h : gi w v b) :
  Calls Try.prog 49 #[v, .int .i64 n, et a] w fun e w' => ∃ v' vo, e = .returned (.tuple #[v', vo, .int .i64 0]) ∧ ee w' w.heap.size v' (di b b.free.length a) ∧ Kd.R (Kd.int .u32) 46 w' w.heap.size (fun _ => True) vo (dK b b.free.length) ∧ Below w.heap.size w w' := by
 obtain ⟨A, c, A', c', rfl, hr⟩ := h
 have hp := iA hrt
 have hsum := hp.sum_le hk hr.l64
 have HL := ak hr.l64
 have HR := ak hr
 have HK := ak hk
 have HRT := ak hrt
 have HMY := ak hm
 have HP := ak hp
 have hfl : b.free.length ≤ 64 := by omega
 have HCP := ak (ml b (by omega) (by omega))
 have ae := ak (Below.refl w.heap.size w)
 have HSUM := ak hsum
 clear hr hk hrt hm hp hsum
 have hnn : 0 ≤ n := by omega
 go_enter Try.func49, Try.ntmps49
 go_wp2_with (first
  | (refine aE rfl 57 (.tmp 0) rfl _ rfl ?_; intro gX W1 J aa I; have bS := ge ae J; have aj := ak (ae.out.trans (I.mono ae.out.size)); have ah := ak (aa); clear J aa I ae)
  | (refine aE rfl 85 (.tmp 2) rfl _ rfl ?_; intro gA W2 J aa I; have kj := ge aj J; have eJ := ne ah J; have aw := mv I aj; have au := mv I ah; have bU := ak (aa); clear J aa I aj ah)
  | (refine ax (some 6) rfl rfl 57 rfl a7 bJ ?_; intro gZ W3 J aa I; have bO := ge aw J; have aG := ne au J; have gh := ne bU J; have aD := mv I aw; have aA := mv I au; have cR := mv I bU; have bQ := ak (aa); clear J aa I aw au bU)
  | ((with_reducible refine av (N := 12) rfl ?_); refine ay rfl 57 (.tmp 3) rfl gX rfl _ _ _ aA.out Try.underlying57 rfl 68 (by kernel_rfl) (ag _ _ _ _ _ HL.out) ?_)
  | (go_at_call 48; refine (dW b HK.out _ _ ⟨A, c, A', c', rfl, HR.out.below aD.out⟩).mono ?_; rintro e W4 ⟨rfl, I⟩; rw [HRT.out]; have aW := mv I aD; have aV := mv I aA; have dd := mv I cR; have bb := mv I bQ; clear I aD aA cR bQ)
  | ((with_reducible refine av (N := 16) rfl ?_); refine fo (by rfl) ?_; refine ay rfl 85 (.tmp 5) rfl gA rfl _ _ _ dd.out Try.underlying85 rfl 2 (by kernel_rfl) rfl ?_)
  | (go_at_call 88; refine (jF a _).mono ?_; rintro e W5 ⟨rfl, I⟩; rw [HMY.out]; have bf := mv I aW; have a9 := mv I aV; have eg := mv I dd; have bu := mv I bb; clear I aW aV dd bb)
  | ((with_reducible refine av (N := 25) rfl ?_); refine ay rfl 57 (.tmp 3) rfl gX rfl _ _ _ a9.out Try.underlying57 rfl 68 (by kernel_rfl) (ag _ _ _ _ _ HL.out) ?_)
  | (go_at_call 89; refine (HCP.out _ _ ⟨A, c, A', c', rfl, HR.out.below bf.out⟩).mono ?_; rintro e W6 ⟨v5, rfl, uE, I⟩; obtain ⟨uG, vf, va, rfl, lT, lX⟩ := uE; obtain ⟨Af, cf, rfl⟩ := Kd.R_slice lT; obtain ⟨Aa, ca, rfl⟩ := Kd.R_slice lX; have HSZ := ak bf.out.size; have tI := ak (show gX < W5.heap.size from a9.out.lt); have nQ := ak (show gA < W5.heap.size from eg.out.lt); have nP := ak (show gZ < W5.heap.size from bu.out.lt); have bD := mv I bf; have bj := mv I a9; have e6 := mv I eg; have bT := mv I bu; have cI := ak (lT); have dx := ak (lX); have dm := ak (I.size); clear uG lT lX I bf a9 eg bu)
  | (refine aN rfl 57 (.tmp 3) (.tmp 26) rfl gX (aX b.addr b.aff b.slots (.slice Af b.free.length cf) (.slice Aa b.attrs.length ca)) rfl rfl 57 _ bj.out 68 (by kernel_rfl) (ag _ _ _ _ _ HL.out) (ag _ _ _ _ _ HL.out) (bZ _ _ _ _ _ rfl rfl) ?_; intro W7 aa J; have dR := gb bD bS J; have df := ak (OC.stored HL.out bj.out aa cI.out dx.out J); have iH := gx e6 bj J; have dI := gm bT aG J; have eS := gr cI bj J; have iz := gr dx bj J; have fQ := ak (Nat.le_trans dm.out J.size); have mX := aa.cell 66 _ (fR _ _ _ _ _ HL.out); have MY : b.free.length ≤ cf := (Kd.R_reads' eS.out).2.1; clear aa J bD bj e6 bT cI dx dm))
 clear mX
 obtain ⟨b1, cA⟩ : ∃ b1, b1 = W5.heap.size := ⟨_, rfl⟩
 rw [← cA] at df eS fQ tI nQ nP HSZ
 have cn := ak (show w.heap.size ≤ b1 from HSZ.out)
 clear cA HSZ
 have hmf : b.free.length ≤ b.free.length := by omega
 go_loopw [9, 11, 36] (fun o _ i W => ∃ k : Nat, k ≤ b.free.length ∧ i = .int .i64 k ∧ Aside0 (OC W b1 gX (dY b k a)) ∧ Aside0 (Kd.R (Kd.int .u32) 46 W w.heap.size (fun _ => True) o (dK b k)) ∧ Aside0 (aH W gA [.string a.f0, .string a.f1] 85) ∧ Aside0 (aH W gZ a7 57) ∧ Aside0 (Kd.R (Kd.int .u8) 5 W b1 (fun _ => True) (.slice Af b.free.length cf) b.free) ∧ Aside0 (b1 ≤ W.heap.size) ∧ Aside0 (Below w.heap.size w W)) (fun _ _ i _ => b.free.length - (intOf i).toNat)
 case atStart => exact ⟨0, by omega, rfl, df, ⟨Kd.R_nil _ _ _ _ _⟩, iH, dI, eS, fQ, dR⟩
 case round =>
  clear dR df iH dI eS fQ
  obtain ⟨k, hk, rfl, aI, bx, eO, bA, bl, aZ, ae⟩ := hrel
  obtain ⟨W, rfl⟩ : ∃ W : World, W = wr := ⟨_, rfl⟩
  by_cases hkn : k < b.free.length
  ·have hkb : decide ((k : Int) < (b.free.length : Int)) = true := by simp; omega
   have hkf : k < b.free.length := by omega
   obtain ⟨ad, eA, hx⟩ := Kd.at_int (Kd.R_reads' bl.out).2.2 k (by omega) (by omega)
   cases eA
   rw [Int.toNat_natCast] at hx
   obtain ⟨j, hj⟩ : ∃ j : Nat, rd b.free k = (j : Int) := ⟨(rd b.free k).toNat, by have := (mZ HK.out.f8 k).1; omega⟩
   have ph : j < 64 := by
    have h1 := HP.out.fr k hkf
    unfold jl at h1
    rw [Bool.or_eq_false_iff, decide_eq_false_iff_not] at h1
    have := h1.1
    omega
   rw [hj] at hx
   have HSC := ak (show dY b (k + 1) a = ⟨(dY b k a).addr, (dY b k a).aff, (dY b k a).slots.set (rd b.free k).toNat (en (dY b k a).attrs a : Nat), (dY b k a).free, ea (dY b k a).attrs a⟩ from oV b k a hkf)
   have HSO := ak (mY b k hkf)
   rw [hj] at HSC HSO
   rw [Int.toNat_natCast] at HSC
   have hol := gq b k (by omega)
   have HOL := ak hol
   have HAL := ak (show (dY b k a).attrs.length ≤ 100 by
    have := pN b.attrs a
    have := HSUM.out
    show (if k = 0 then b.attrs else ea b.attrs a).length ≤ 100
    split <;> omega)
   obtain ⟨bm, hbm⟩ : ∃ bm, bm = dY b k a := ⟨_, rfl⟩
   have hadr : bm.addr = b.addr := by rw [hbm]; rfl
   have HADR := ak hadr
   clear hadr
   rw [← hbm] at aI HSC HAL
   obtain ⟨oo, hoo⟩ : ∃ oo, oo = dK b k := ⟨_, rfl⟩
   obtain ⟨o1, fh⟩ : ∃ o1, o1 = dK b (k + 1) := ⟨_, rfl⟩
   rw [← hoo] at bx HSO HOL
   rw [← fh, ← HADR.out] at HSO
   have kk := ak fh
   have zC : 0 ≤ bm.addr := by rw [HADR.out]; exact HK.out.a0
   have kQ : bm.addr + 64 ≤ 4294967296 := by
    rw [HADR.out]
    have h1 := HP.out.first
    have h2 := HK.out.a1
    unfold bN at h1
    omega
   clear hol hj hbm hoo fh
   obtain ⟨Ao, co, rfl⟩ := Kd.R_slice bx.out
   go_wp2_with (first
    | ((with_reducible refine av (N := 41) rfl ?_); refine ay rfl 85 (.tmp 5) rfl gA rfl _ _ _ eO.out Try.underlying85 rfl 2 (by kernel_rfl) rfl ?_)
    | (go_at_call 90; refine (pK bm HAL.out a gX b1 w.heap.size _ bS.out cn.out aZ.out aI.out).mono ?_; rintro e W1 ⟨rfl, aU, I, bV⟩; obtain ⟨NZ, Nq, NY, Np, jf, _, _⟩ := aI.out.open; have ah := ak (aU); have b7 := ak (Kd.R_added bx.out jf (by decide) bV); have e7 := ak (aH.added eO.out (Ne.symm eJ.out) nQ.out bV); have bR := ak (aH.added bA.out (Ne.symm aG.out) nP.out bV); have bg := ak (Kd.R_added bl.out jf (by decide) bV); have bd := ak (Nat.le_trans aZ.out bV.1); have aj := ak (ae.out.trans I); have mX := (show OC W1 b1 gX ⟨bm.addr, bm.aff, bm.slots, bm.free, ea bm.attrs a⟩ from ah.out).slotCell j ph; have BB := ah.out.frozen (2 + j); have BE := ah.out.addrCell; clear aU I bV jf aI bx eO bA bl aZ ae)
    | ((with_reducible refine cC (b := .append) (xs := #[.tmp 45, .tmp 51]) rfl ?_); at_builtin; clear mX BB BE; obtain ⟨_, _, _, _, jf, _, _⟩ := ah.out.open; generalize bW : W1.setCell ⟨gX, 2 + j, none⟩ (.int .u8 (en bm.attrs a : Nat)) = W2; have mU : W1.heap.size = W2.heap.size := (by rw [← bW]; simp [World.setCell]); rw [mU]; clear mU; have J : W1.grownBy W2 (some gX) := (by rw [← bW]; exact bP _ _ _ _); have au := ak (OC.slot ah.out j ph (en bm.attrs a : Nat)); have ct := ak (bY b7.out jf (by decide) J); have bU := gm e7 eJ J; have b4 := gm bR aG J; have bM := ak (bY bg.out jf (by decide) J); have bF := ak (Nat.le_trans bd.out J.size); have aw := gb aj bS J; rw [bW] at au; clear bW J ah b7 e7 bR bg bd aj jf; refine Kd.R_append (Kd.int .u32) (w0 := w) w.heap.size rfl (.tmp 45) (.tmp 51) 77 46 (.int .u32 0) 4 rfl Try.underlying77 iM rfl (by decide) (by omega) _ oo (bm.addr + (j : Int)) [.int .u32 (bm.addr + (j : Int))] (fun _ => True) (fun _ => False) rfl rfl rfl (fun _ hk => hk.elim) (fun _ _ => trivial) ct.out aw.out aw.out.size (by have := HOL.out; omega) ?_; intro v_ W3 aU I J fu; rw [← HSO.out] at aU; have aA := ak (OC.row au.out ct.out (by decide) (by decide) J); have eN := ak (aU); have cR := ak (bU.out.grown J (bU.out.ne_row ct.out (by decide))); have bQ := ak (b4.out.grown J (b4.out.ne_row ct.out (by decide))); have cg := ak (Kd.R_over bM.out ct.out (by decide) J); have b6 := ak (Nat.le_trans bF.out J.size); have aD := ak (I); obtain ⟨AO, cO, rfl⟩ := Kd.R_slice aU; clear aU I J fu au ct bU b4 bM bF aw))
   go_roundw
   case rel => exact ⟨k + 1, by omega, by go_num, ⟨by rw [HSC.out]; exact aA.out⟩, ⟨by rw [← kk.out]; exact eN.out⟩, cR, bQ, cg, b6, aD⟩
   case measure => simp [intOf]; omega
  ·obtain rfl : k = b.free.length := by omega
   have hkb : decide ((b.free.length : Int) < (b.free.length : Int)) = false := by simp
   have hol := gq b b.free.length (by omega)
   obtain ⟨oo, hoo⟩ : ∃ oo, oo = dK b b.free.length := ⟨_, rfl⟩
   obtain ⟨bm, hbm⟩ : ∃ bm, bm = dY b b.free.length a := ⟨_, rfl⟩
   rw [← hoo] at bx hol
   rw [← hbm] at aI
   have HOO := ak hoo
   have hfr : bm.free = b.free := by rw [hbm]; rfl
   have HBK := ak (show di b b.free.length a = ⟨bm.addr, bm.aff, bm.slots, bm.free.drop oo.length, bm.attrs⟩ by rw [hol, hbm]; rfl)
   obtain ⟨Ao, co, rfl⟩ := Kd.R_slice bx.out
   obtain ⟨A1, c1, A2, c2, hxx, mW, kQ⟩ := aI.out.open
   have hqa : bm.free.length ≤ c1 := (Kd.R_reads' mW).2.1
   have hqb : oo.length ≤ bm.free.length := by rw [hfr, hol]; omega
   have hqc : bm.free.length ≤ 64 := by rw [hfr]; omega
   have HQ := ak (Kd.R_reads' mW).2.2
   have kb := ak kQ
   have HXX := ak hxx
   have HL := ak aI.out.l64
   have HWS := ak ae.out.size
   have mX := hxx.cell 66 _ (fR _ _ _ _ _ HL.out)
   have HCD := ak (fun w' (h : Kd.C (Kd.int .u8) w' A1 bm.free.length bm.free) => uL bm.free A1 c1 oo.length w' h hqb hqa (by omega) _ rfl)
   obtain ⟨fd, hfd⟩ : ∃ fd, fd = bm.free.drop oo.length := ⟨_, rfl⟩
   rw [← hfd] at HCD HBK
   clear hxx mW kQ hol hoo hbm hfr hfd
   by_cases hne : c1 = oo.length
   all_goals
    first | rw [if_neg hne] at HCD | rw [if_pos hne, show c1 - oo.length = 0 by omega] at HCD
    go_wp2_with (first
     | (go_at_call 91; refine (HCD.out _ HQ.out).mono ?_; rintro e W1 ⟨Pn, rfl, cV, I⟩; clear mX; obtain ⟨vu, uN, rfl⟩ := Kd.R_slice cV; have ah := mv I HXX; have b7 := mv I bx; have bR := mv I bA; have bd := ak (Nat.le_trans aZ.out I.size); have aj := ak (ae.out.trans (I.mono ae.out.size)); have dc := mv I kb; have od := ak (cV); have qx := ah.out.cell 66 _ (fR _ _ _ _ _ HL.out); have Br := ah.out.frozen 66; clear cV I HXX bx bA aZ ae kb)
     | (generalize bW : W1.setCell ⟨gX, 66, none⟩ (.slice vu fd.length uN) = W2; have J : W1.grownBy W2 (some gX) := (by rw [← bW]; exact bP _ _ _ _); have au := ak (ah.out.set 66 (.slice vu fd.length uN)); have ct := gr b7 ah J; have b4 := gm bR aG J; have bF := ak (Nat.le_trans bd.out J.size); have aw := gb aj bS J; have dp := gr dc ah J; have qL := gr od ah J; rw [bW] at au; clear bW J ah b7 bR bd aj dc od qx Br; rw [kW _ _ _ _ _ HL.out] at au; refine ay rfl 57 (.tmp 3) rfl gX rfl _ _ _ au.out Try.underlying57 rfl 68 (by kernel_rfl) (ag _ _ _ _ _ HL.out) ?_)
     | (refine aN rfl 57 (.tmp 6) (.tmp 61) rfl gZ (aX bm.addr bm.aff bm.slots (.slice vu fd.length uN) (.slice A2 bm.attrs.length c2)) rfl rfl 57 _ b4.out 68 (by kernel_rfl) (ag _ _ _ _ _ HL.out) rfl (bZ _ _ _ _ _ rfl rfl) ?_; intro W3 aa J; have aA := gn au aG J; have eN := gr ct b4 J; have bQ := ak (aa); have b6 := ak (Nat.le_trans bF.out J.size); have aD := gb aw bO J; have ec := gr dp b4 J; have oJ := gr qL b4 J; clear aa J au ct b4 bF aw dp qL))
    refine bodyPost_ret (iq rfl _ _ gZ 57 _ (0, 0) _ rfl bQ.out Try.underlying57 rfl (by simp only [List.size_toArray]; exact b9 _ (ag _ _ _ _ _ HL.out))) rfl ⟨_, _, rfl, ?_, ?_, aD.out⟩
    ·rw [HBK.out]; exact ⟨HL.out, _, _, rfl, Kd.R_lower oJ.out HWS.out, Kd.R_lower ec.out cn.out⟩
    ·rw [← HOO.out]; exact eN.out
set_option maxHeartbeats 16000000 in
set_option maxRecDepth 100000 in
theorem Dc (b : Bk) (hk : BkOk b)  (a : At) (hrt : dy b = true) (hm : eP a = true) (v : Value) (w : World) (h : gi w v b) :
  Calls Try.prog 49 #[v, .int .i64 (b.free.length : Int), et a] w fun e w' => ∃ v' vo, e = .returned (.tuple #[v', vo, .int .i64 0]) ∧ ee w' w.heap.size v' (di b b.free.length a) ∧ Kd.R (Kd.int .u32) 46 w' w.heap.size (fun _ => True) vo (dK b b.free.length) ∧ Below w.heap.size w w' := by
 obtain ⟨A, c, A', c', rfl, hr⟩ := h
 have hp := iA hrt
 have hsum := hp.sum_le hk hr.l64
 have HL := ak hr.l64
 have HR := ak hr
 have HK := ak hk
 have HRT := ak hrt
 have HMY := ak hm
 have HP := ak hp
 have hfl : b.free.length ≤ 64 := by omega
 have HCP := ak (ml b (by omega) (by omega))
 have ae := ak (Below.refl w.heap.size w)
 have HSUM := ak hsum
 clear hr hk hrt hm hp hsum
 go_enter Try.func49, Try.ntmps49
 go_wp2_with (first
  | (refine aE rfl 57 (.tmp 0) rfl _ rfl ?_; intro gX W1 J aa I; have bS := ge ae J; have aj := ak (ae.out.trans (I.mono ae.out.size)); have ah := ak (aa); clear J aa I ae)
  | (refine aE rfl 85 (.tmp 2) rfl _ rfl ?_; intro gA W2 J aa I; have kj := ge aj J; have eJ := ne ah J; have aw := mv I aj; have au := mv I ah; have bU := ak (aa); clear J aa I aj ah)
  | (refine ax (some 6) rfl rfl 57 rfl a7 bJ ?_; intro gZ W3 J aa I; have bO := ge aw J; have aG := ne au J; have gh := ne bU J; have aD := mv I aw; have aA := mv I au; have cR := mv I bU; have bQ := ak (aa); clear J aa I aw au bU)
  | ((with_reducible refine av (N := 12) rfl ?_); refine ay rfl 57 (.tmp 3) rfl gX rfl _ _ _ aA.out Try.underlying57 rfl 68 (by kernel_rfl) (ag _ _ _ _ _ HL.out) ?_)
  | (go_at_call 48; refine (dW b HK.out _ _ ⟨A, c, A', c', rfl, HR.out.below aD.out⟩).mono ?_; rintro e W4 ⟨rfl, I⟩; rw [HRT.out]; have aW := mv I aD; have aV := mv I aA; have dd := mv I cR; have bb := mv I bQ; clear I aD aA cR bQ)
  | ((with_reducible refine av (N := 16) rfl ?_); refine fo (by rfl) ?_; refine ay rfl 85 (.tmp 5) rfl gA rfl _ _ _ dd.out Try.underlying85 rfl 2 (by kernel_rfl) rfl ?_)
  | (go_at_call 88; refine (jF a _).mono ?_; rintro e W5 ⟨rfl, I⟩; rw [HMY.out]; have bf := mv I aW; have a9 := mv I aV; have eg := mv I dd; have bu := mv I bb; clear I aW aV dd bb)
  | ((with_reducible refine av (N := 25) rfl ?_); refine ay rfl 57 (.tmp 3) rfl gX rfl _ _ _ a9.out Try.underlying57 rfl 68 (by kernel_rfl) (ag _ _ _ _ _ HL.out) ?_)
  | (go_at_call 89; refine (HCP.out _ _ ⟨A, c, A', c', rfl, HR.out.below bf.out⟩).mono ?_; rintro e W6 ⟨v5, rfl, uE, I⟩; obtain ⟨uG, vf, va, rfl, lT, lX⟩ := uE; obtain ⟨Af, cf, rfl⟩ := Kd.R_slice lT; obtain ⟨Aa, ca, rfl⟩ := Kd.R_slice lX; have HSZ := ak bf.out.size; have tI := ak (show gX < W5.heap.size from a9.out.lt); have nQ := ak (show gA < W5.heap.size from eg.out.lt); have nP := ak (show gZ < W5.heap.size from bu.out.lt); have bD := mv I bf; have bj := mv I a9; have e6 := mv I eg; have bT := mv I bu; have cI := ak (lT); have dx := ak (lX); have dm := ak (I.size); clear uG lT lX I bf a9 eg bu)
  | (refine aN rfl 57 (.tmp 3) (.tmp 26) rfl gX (aX b.addr b.aff b.slots (.slice Af b.free.length cf) (.slice Aa b.attrs.length ca)) rfl rfl 57 _ bj.out 68 (by kernel_rfl) (ag _ _ _ _ _ HL.out) (ag _ _ _ _ _ HL.out) (bZ _ _ _ _ _ rfl rfl) ?_; intro W7 aa J; have dR := gb bD bS J; have df := ak (OC.stored HL.out bj.out aa cI.out dx.out J); have iH := gx e6 bj J; have dI := gm bT aG J; have eS := gr cI bj J; have iz := gr dx bj J; have fQ := ak (Nat.le_trans dm.out J.size); have mX := aa.cell 66 _ (fR _ _ _ _ _ HL.out); have MY : b.free.length ≤ cf := (Kd.R_reads' eS.out).2.1; clear aa J bD bj e6 bT cI dx dm))
 clear mX
 obtain ⟨b1, cA⟩ : ∃ b1, b1 = W5.heap.size := ⟨_, rfl⟩
 rw [← cA] at df eS fQ tI nQ nP HSZ
 have cn := ak (show w.heap.size ≤ b1 from HSZ.out)
 clear cA HSZ
 have hmf : b.free.length ≤ b.free.length := by omega
 go_loopw [9, 11, 36] (fun o _ i W => ∃ k : Nat, k ≤ b.free.length ∧ i = .int .i64 k ∧ Aside0 (OC W b1 gX (dY b k a)) ∧ Aside0 (Kd.R (Kd.int .u32) 46 W w.heap.size (fun _ => True) o (dK b k)) ∧ Aside0 (aH W gA [.string a.f0, .string a.f1] 85) ∧ Aside0 (aH W gZ a7 57) ∧ Aside0 (Kd.R (Kd.int .u8) 5 W b1 (fun _ => True) (.slice Af b.free.length cf) b.free) ∧ Aside0 (b1 ≤ W.heap.size) ∧ Aside0 (Below w.heap.size w W)) (fun _ _ i _ => b.free.length - (intOf i).toNat)
 case atStart => exact ⟨0, by omega, rfl, df, ⟨Kd.R_nil _ _ _ _ _⟩, iH, dI, eS, fQ, dR⟩
 case round =>
  clear dR df iH dI eS fQ
  obtain ⟨k, hk, rfl, aI, bx, eO, bA, bl, aZ, ae⟩ := hrel
  obtain ⟨W, rfl⟩ : ∃ W : World, W = wr := ⟨_, rfl⟩
  by_cases hkn : k < b.free.length
  ·have hkb : decide ((k : Int) < (b.free.length : Int)) = true := by simp; omega
   have hkf : k < b.free.length := by omega
   obtain ⟨ad, eA, hx⟩ := Kd.at_int (Kd.R_reads' bl.out).2.2 k (by omega) (by omega)
   cases eA
   rw [Int.toNat_natCast] at hx
   obtain ⟨j, hj⟩ : ∃ j : Nat, rd b.free k = (j : Int) := ⟨(rd b.free k).toNat, by have := (mZ HK.out.f8 k).1; omega⟩
   have ph : j < 64 := by
    have h1 := HP.out.fr k hkf
    unfold jl at h1
    rw [Bool.or_eq_false_iff, decide_eq_false_iff_not] at h1
    have := h1.1
    omega
   rw [hj] at hx
   have HSC := ak (show dY b (k + 1) a = ⟨(dY b k a).addr, (dY b k a).aff, (dY b k a).slots.set (rd b.free k).toNat (en (dY b k a).attrs a : Nat), (dY b k a).free, ea (dY b k a).attrs a⟩ from oV b k a hkf)
   have HSO := ak (mY b k hkf)
   rw [hj] at HSC HSO
   rw [Int.toNat_natCast] at HSC
   have hol := gq b k (by omega)
   have HOL := ak hol
   have HAL := ak (show (dY b k a).attrs.length ≤ 100 by
    have := pN b.attrs a
    have := HSUM.out
    show (if k = 0 then b.attrs else ea b.attrs a).length ≤ 100
    split <;> omega)
   obtain ⟨bm, hbm⟩ : ∃ bm, bm = dY b k a := ⟨_, rfl⟩
   have hadr : bm.addr = b.addr := by rw [hbm]; rfl
   have HADR := ak hadr
   clear hadr
   rw [← hbm] at aI HSC HAL
   obtain ⟨oo, hoo⟩ : ∃ oo, oo = dK b k := ⟨_, rfl⟩
   obtain ⟨o1, fh⟩ : ∃ o1, o1 = dK b (k + 1) := ⟨_, rfl⟩
   rw [← hoo] at bx HSO HOL
   rw [← fh, ← HADR.out] at HSO
   have kk := ak fh
   have zC : 0 ≤ bm.addr := by rw [HADR.out]; exact HK.out.a0
   have kQ : bm.addr + 64 ≤ 4294967296 := by
    rw [HADR.out]
    have h1 := HP.out.first
    have h2 := HK.out.a1
    unfold bN at h1
    omega
   clear hol hj hbm hoo fh
   obtain ⟨Ao, co, rfl⟩ := Kd.R_slice bx.out
   go_wp2_with (first
    | ((with_reducible refine av (N := 41) rfl ?_); refine ay rfl 85 (.tmp 5) rfl gA rfl _ _ _ eO.out Try.underlying85 rfl 2 (by kernel_rfl) rfl ?_)
    | (go_at_call 90; refine (pK bm HAL.out a gX b1 w.heap.size _ bS.out cn.out aZ.out aI.out).mono ?_; rintro e W1 ⟨rfl, aU, I, bV⟩; obtain ⟨NZ, Nq, NY, Np, jf, _, _⟩ := aI.out.open; have ah := ak (aU); have b7 := ak (Kd.R_added bx.out jf (by decide) bV); have e7 := ak (aH.added eO.out (Ne.symm eJ.out) nQ.out bV); have bR := ak (aH.added bA.out (Ne.symm aG.out) nP.out bV); have bg := ak (Kd.R_added bl.out jf (by decide) bV); have bd := ak (Nat.le_trans aZ.out bV.1); have aj := ak (ae.out.trans I); have mX := (show OC W1 b1 gX ⟨bm.addr, bm.aff, bm.slots, bm.free, ea bm.attrs a⟩ from ah.out).slotCell j ph; have BB := ah.out.frozen (2 + j); have BE := ah.out.addrCell; clear aU I bV jf aI bx eO bA bl aZ ae)
    | ((with_reducible refine cC (b := .append) (xs := #[.tmp 45, .tmp 51]) rfl ?_); at_builtin; clear mX BB BE; obtain ⟨_, _, _, _, jf, _, _⟩ := ah.out.open; generalize bW : W1.setCell ⟨gX, 2 + j, none⟩ (.int .u8 (en bm.attrs a : Nat)) = W2; have mU : W1.heap.size = W2.heap.size := (by rw [← bW]; simp [World.setCell]); rw [mU]; clear mU; have J : W1.grownBy W2 (some gX) := (by rw [← bW]; exact bP _ _ _ _); have au := ak (OC.slot ah.out j ph (en bm.attrs a : Nat)); have ct := ak (bY b7.out jf (by decide) J); have bU := gm e7 eJ J; have b4 := gm bR aG J; have bM := ak (bY bg.out jf (by decide) J); have bF := ak (Nat.le_trans bd.out J.size); have aw := gb aj bS J; rw [bW] at au; clear bW J ah b7 e7 bR bg bd aj jf; refine Kd.R_append (Kd.int .u32) (w0 := w) w.heap.size rfl (.tmp 45) (.tmp 51) 77 46 (.int .u32 0) 4 rfl Try.underlying77 iM rfl (by decide) (by omega) _ oo (bm.addr + (j : Int)) [.int .u32 (bm.addr + (j : Int))] (fun _ => True) (fun _ => False) rfl rfl rfl (fun _ hk => hk.elim) (fun _ _ => trivial) ct.out aw.out aw.out.size (by have := HOL.out; omega) ?_; intro v_ W3 aU I J fu; rw [← HSO.out] at aU; have aA := ak (OC.row au.out ct.out (by decide) (by decide) J); have eN := ak (aU); have cR := ak (bU.out.grown J (bU.out.ne_row ct.out (by decide))); have bQ := ak (b4.out.grown J (b4.out.ne_row ct.out (by decide))); have cg := ak (Kd.R_over bM.out ct.out (by decide) J); have b6 := ak (Nat.le_trans bF.out J.size); have aD := ak (I); obtain ⟨AO, cO, rfl⟩ := Kd.R_slice aU; clear aU I J fu au ct bU b4 bM bF aw))
   go_roundw
   case rel => exact ⟨k + 1, by omega, by go_num, ⟨by rw [HSC.out]; exact aA.out⟩, ⟨by rw [← kk.out]; exact eN.out⟩, cR, bQ, cg, b6, aD⟩
   case measure => simp [intOf]; omega
  ·obtain rfl : k = b.free.length := by omega
   have hkb : decide ((b.free.length : Int) < (b.free.length : Int)) = false := by simp
   have hol := gq b b.free.length (by omega)
   obtain ⟨oo, hoo⟩ : ∃ oo, oo = dK b b.free.length := ⟨_, rfl⟩
   obtain ⟨bm, hbm⟩ : ∃ bm, bm = dY b b.free.length a := ⟨_, rfl⟩
   rw [← hoo] at bx hol
   rw [← hbm] at aI
   have HOO := ak hoo
   have hfr : bm.free = b.free := by rw [hbm]; rfl
   have HBK := ak (show di b b.free.length a = ⟨bm.addr, bm.aff, bm.slots, bm.free.drop oo.length, bm.attrs⟩ by rw [hol, hbm]; rfl)
   obtain ⟨Ao, co, rfl⟩ := Kd.R_slice bx.out
   obtain ⟨A1, c1, A2, c2, hxx, mW, kQ⟩ := aI.out.open
   have hqa : bm.free.length ≤ c1 := (Kd.R_reads' mW).2.1
   have hqb : oo.length ≤ bm.free.length := by rw [hfr, hol]; omega
   have hqc : bm.free.length ≤ 64 := by rw [hfr]; omega
   have HQ := ak (Kd.R_reads' mW).2.2
   have kb := ak kQ
   have HXX := ak hxx
   have HL := ak aI.out.l64
   have HWS := ak ae.out.size
   have mX := hxx.cell 66 _ (fR _ _ _ _ _ HL.out)
   have HCD := ak (fun w' (h : Kd.C (Kd.int .u8) w' A1 bm.free.length bm.free) => uL bm.free A1 c1 oo.length w' h hqb hqa (by omega) _ rfl)
   obtain ⟨fd, hfd⟩ : ∃ fd, fd = bm.free.drop oo.length := ⟨_, rfl⟩
   rw [← hfd] at HCD HBK
   clear hxx mW kQ hol hoo hbm hfr hfd
   by_cases hne : c1 = oo.length
   all_goals
    first | rw [if_neg hne] at HCD | rw [if_pos hne, show c1 - oo.length = 0 by omega] at HCD
    go_wp2_with (first
     | (go_at_call 91; refine (HCD.out _ HQ.out).mono ?_; rintro e W1 ⟨Pn, rfl, cV, I⟩; clear mX; obtain ⟨vu, uN, rfl⟩ := Kd.R_slice cV; have ah := mv I HXX; have b7 := mv I bx; have bR := mv I bA; have bd := ak (Nat.le_trans aZ.out I.size); have aj := ak (ae.out.trans (I.mono ae.out.size)); have dc := mv I kb; have od := ak (cV); have qx := ah.out.cell 66 _ (fR _ _ _ _ _ HL.out); have Br := ah.out.frozen 66; clear cV I HXX bx bA aZ ae kb)
     | (generalize bW : W1.setCell ⟨gX, 66, none⟩ (.slice vu fd.length uN) = W2; have J : W1.grownBy W2 (some gX) := (by rw [← bW]; exact bP _ _ _ _); have au := ak (ah.out.set 66 (.slice vu fd.length uN)); have ct := gr b7 ah J; have b4 := gm bR aG J; have bF := ak (Nat.le_trans bd.out J.size); have aw := gb aj bS J; have dp := gr dc ah J; have qL := gr od ah J; rw [bW] at au; clear bW J ah b7 bR bd aj dc od qx Br; rw [kW _ _ _ _ _ HL.out] at au; refine ay rfl 57 (.tmp 3) rfl gX rfl _ _ _ au.out Try.underlying57 rfl 68 (by kernel_rfl) (ag _ _ _ _ _ HL.out) ?_)
     | (refine aN rfl 57 (.tmp 6) (.tmp 61) rfl gZ (aX bm.addr bm.aff bm.slots (.slice vu fd.length uN) (.slice A2 bm.attrs.length c2)) rfl rfl 57 _ b4.out 68 (by kernel_rfl) (ag _ _ _ _ _ HL.out) rfl (bZ _ _ _ _ _ rfl rfl) ?_; intro W3 aa J; have aA := gn au aG J; have eN := gr ct b4 J; have bQ := ak (aa); have b6 := ak (Nat.le_trans bF.out J.size); have aD := gb aw bO J; have ec := gr dp b4 J; have oJ := gr qL b4 J; clear aa J au ct b4 bF aw dp qL))
    refine bodyPost_ret (iq rfl _ _ gZ 57 _ (0, 0) _ rfl bQ.out Try.underlying57 rfl (by simp only [List.size_toArray]; exact b9 _ (ag _ _ _ _ _ HL.out))) rfl ⟨_, _, rfl, ?_, ?_, aD.out⟩
    ·rw [HBK.out]; exact ⟨HL.out, _, _, rfl, Kd.R_lower oJ.out HWS.out, Kd.R_lower ec.out cn.out⟩
    ·rw [← HOO.out]; exact eN.out
theorem nL (b : Bk) (hk : BkOk b) (n : Int) (hn : n < 9223372036854775808) (a : At) (v : Value) (w : World) (h : gi w v b) :
  Calls Try.prog 49 #[v, .int .i64 n, et a] w fun e w' => ∃ v' vo, e = .returned (.tuple #[v', vo, .int .i64 (if kF b n a = true then 0 else 1)]) ∧ ee w' w.heap.size v' (if kF b n a = true then di b (min n.toNat b.free.length) a else jS) ∧ Kd.R (Kd.int .u32) 46 w' w.heap.size (fun _ => True) vo (if kF b n a = true then dK b (min n.toNat b.free.length) else []) ∧ Below w.heap.size w w' := by
 cases ho : kF b n a with
 | false =>
  simp only [Bool.false_eq_true, if_false]
  exact F7 b hk n a ho v w h
 | true =>
  simp only [if_true]
  unfold kF at ho
  simp only [Bool.and_eq_true, decide_eq_true_eq] at ho
  obtain ⟨h1, h2, h3⟩ := ho
  by_cases hl : (b.free.length : Int) ≤ n
  ·rw [show min n.toNat b.free.length = b.free.length by omega]
   by_cases SY : (b.free.length : Int) < n
   ·exact Eu b hk n SY hn a h1 h2 v w h
   ·obtain rfl : n = (b.free.length : Int) := by omega
    exact Dc b hk a h1 h2 v w h
  ·obtain ⟨m, rfl⟩ : ∃ m : Nat, n = (m : Int) := ⟨n.toNat, by omega⟩
   rw [show min (m : Int).toNat b.free.length = m by omega]
   exact Db b hk m (by omega) a h1 h2 v w h
end Go.Proofs.Ytemhalnhbgkbcaa.V
end

section
namespace Go.Proofs.Ytemhalnhbgkbcaa.V
theorem Ga (ad : Addr) : ad.add 0 = ad := by
 obtain ⟨b, o, s⟩ := ad
 unfold Addr.add
 split <;> simp_all
theorem jZ.of {W : World} {b1 : Nat} {b : Bk} {M : List kD} {As Af Aa : Option Addr} {cs cf ca : Nat} (hm : M = b.attrs.map vc) (hs : Kd.R (Kd.int .i64) 3 W b1 (fun _ => True) (.slice As b.slots.length cs) b.slots) (hf : Kd.R (Kd.int .i64) 3 W b1 (fun _ => True) (.slice Af b.free.length cf) b.free) (ha : Kd.R hH 76 W b1 (fun _ => True) (.slice Aa M.length ca) M) :
  RbR W b M As cs Af cf Aa ca := ⟨hm, (Kd.R_reads' hs).2.2, (Kd.R_reads' hs).2.1, (Kd.R_reads' hf).2.2, (Kd.R_reads' hf).2.1, (Kd.R_reads' ha).2.2, (Kd.R_reads' ha).2.1⟩
set_option maxHeartbeats 16000000 in
set_option maxRecDepth 100000 in
theorem zT (b : Bk) (hl : b.slots.length = 64) (hf : b.free.length ≤ 1000) (ha : b.attrs.length ≤ 100) (hnd : wa b.attrs) (x : Int) (h0 : 0 ≤ x) (h1 : x < 4294967296) (a : At) (v : Value) (w : World) (h : jZ w v b) :
  Calls Try.prog 107 #[v, .int .u32 x, .agg #[.string a.f0, .string a.f1]] w fun e w' => ∃ v', e = .returned v' ∧ eM w' w.heap.size v' (fH b (x % 64).toNat a) ∧ Below w.heap.size w w' := by
 obtain ⟨M, As, cs, Af, cf, Aa, ca, rfl, hr⟩ := h
 obtain ⟨j, hj⟩ : ∃ j : Nat, x % 64 = (j : Int) := ⟨(x % 64).toNat, by omega⟩
 have ph : j < 64 := by omega
 have HR := ak hr
 have HGV := ak (fun v w h => BI b hl hf ha hnd j ph a v w h)
 have HJ := ak (show x.tmod 64 = (j : Int) by rw [Int.tmod_eq_emod_of_nonneg h0]; exact hj)
 have zL := ak (show (x % 64).toNat = j by rw [hj]; rfl)
 have ae := ak (Below.refl w.heap.size w)
 have hjt := HJ.out
 clear hr hl hj hnd
 go_enter Try.func107, Try.ntmps107
 go_wp2_with (first
  | (refine aE rfl 62 (.tmp 0) rfl _ rfl ?_; intro gX W1 J aa I; have bS := ge ae J; have aj := ak (ae.out.trans (I.mono ae.out.size)); have ah := ak (aa); clear J aa I ae)
  | (refine aE rfl 76 (.tmp 2) rfl _ rfl ?_; intro gA W2 J aa I; have kj := ge aj J; have eJ := ne ah J; have aw := mv I aj; have au := mv I ah; have bU := ak (aa); clear J aa I aj ah)
  | (refine ax (some 6) rfl rfl 62 rfl dM (fun _ => by kernel_rfl) ?_; intro gZ W3 J aa I; have bO := ge aw J; have aG := ne au J; have gh := ne bU J; have aD := mv I aw; have aA := mv I au; have cR := mv I bU; have bQ := ak (aa); clear J aa I aw au bU)
  | ((with_reducible refine av (N := 7) rfl ?_); refine ay rfl 62 (.tmp 3) rfl gX rfl _ _ _ aA.out Try.underlying62 rfl 5 (by kernel_rfl) rfl ?_)
  | ((with_reducible refine av (N := 11) rfl ?_); refine ay rfl 76 (.tmp 5) rfl gA rfl _ _ _ cR.out Try.underlying76 rfl 2 (by kernel_rfl) rfl ?_)
  | (go_at_call 106; refine (HGV.out _ _ ⟨M, As, cs, Af, cf, Aa, ca, rfl, HR.out.below aD.out⟩).mono ?_; rintro e W4 ⟨v9, rfl, fF, I⟩; obtain ⟨nb, hnb⟩ : ∃ nb, nb = fH b j a := ⟨_, rfl⟩; rw [← hnb] at fF; have HNB := ak hnb; obtain ⟨uk, qN, qO, rfl, gg, fm, ez⟩ := fF; have HSZ := ak aD.out.size; obtain ⟨A7, c7, rfl⟩ := Kd.R_slice gg; obtain ⟨A8, c8, rfl⟩ := Kd.R_slice fm; obtain ⟨NM, hNM⟩ : ∃ NM, NM = nb.attrs.map vc := ⟨_, rfl⟩; rw [← hNM] at ez; have HNM := ak hNM; obtain ⟨A9, c9, rfl⟩ := Kd.R_slice ez; have aW := mv I aD; have aV := mv I aA; have dd := mv I cR; have bb := mv I bQ; have cP := ak (gg); have cd := ak (fm); have dw := ak (ez); clear hNM hnb gg fm ez I aD aA cR bQ)
  | (refine aN rfl 62 (.tmp 6) (.tmp 12) rfl gZ (dt nb.addr nb.aff (.slice A7 nb.slots.length c7) (.slice A8 nb.free.length c8) (.slice A9 NM.length c9)) rfl rfl 62 _ bb.out 5 (by kernel_rfl) rfl rfl (dO _ _ rfl rfl rfl) ?_; intro W5 aa J; have bf := gb aW bO J; have a9 := gn aV aG J; have eg := gx dd bb J; have bu := ak (aa); have cY := gr cP bb J; have b8 := gr cd bb J; have cQ := gr dw bb J; clear aa J aW aV dd bb cP cd dw))
 refine bodyPost_ret (results_cell_row rfl _ _ gZ 62 _ (0, 0) _ rfl bu.out Try.underlying62 rfl (by kernel_rfl)) rfl ⟨_, rfl, ?_, bf.out⟩
 rw [zL.out, ← HNB.out]
 exact ⟨_, _, _, rfl, Kd.R_lower cY.out HSZ.out, Kd.R_lower b8.out HSZ.out, by rw [← HNM.out]; exact Kd.R_lower cQ.out HSZ.out⟩
set_option maxHeartbeats 16000000 in
set_option maxRecDepth 100000 in
theorem CY (b : Bk) (hk : BkOk b) (hp : RightP b) (hl : b.slots.length = 64) (n : Int) (hn : n < 9223372036854775808) (lK : 0 ≤ n) (m : Nat) (hm : m = min n.toNat b.free.length) (a : At) (v : Value) (w : World) (base : Nat) (lW : base ≤ w.heap.size) (h : eM w base v b) :
  Calls Try.prog 82 #[v, .int .i64 n, .agg #[.string a.f0, .string a.f1]] w fun e w' => ∃ v' vo, e = .returned (.tuple #[v', vo]) ∧ eM w' base v' (di b m a) ∧ Kd.R (Kd.int .u32) 46 w' w.heap.size (fun _ => True) vo (dK b m) ∧ Below w.heap.size w w' := by
 obtain ⟨vs0, Vd, Ve, rfl, mV, BA, Ei⟩ := h
 obtain ⟨M, hM⟩ : ∃ M, M = b.attrs.map vc := ⟨_, rfl⟩
 rw [← hM] at Ei
 obtain ⟨As, cs, rfl⟩ := Kd.R_slice mV
 obtain ⟨Af, cf, rfl⟩ := Kd.R_slice BA
 obtain ⟨Aa, ca, rfl⟩ := Kd.R_slice Ei
 have TS := ak mV
 have Ud := ak BA
 have Uj := ak Ei
 have HMM := ak hM
 have HBW := ak lW
 have hsum := hp.sum_le hk hl
 have HK := ak hk
 have HP := ak hp
 have HL := ak hl
 have HSUM := ak hsum
 have HMN := ak (show (m : Int) ≤ n ∧ m ≤ b.free.length ∧ ((m : Int) = n ∨ m = b.free.length) by omega)
 have U0 : m ≤ 64 := by omega
 have zC : 0 ≤ b.addr := hk.a0
 have kQ : b.addr + 64 ≤ 4294967296 := by
  have h1 := hp.first
  have h2 := hk.a1
  unfold bN at h1
  omega
 have ae := ak (Below.refl w.heap.size w)
 clear mV BA Ei hM lW hk hp hl hsum hm
 go_enter Try.func82, Try.ntmps82
 go_wp2_with (first
  | (refine aE rfl 62 (.tmp 0) rfl _ rfl ?_; intro gX W1 J aa I; have bS := ge ae J; have aj := ak (ae.out.trans (I.mono ae.out.size)); have ah := ak (aa); clear J aa I ae)
  | (refine aE rfl 76 (.tmp 2) rfl _ rfl ?_; intro gA W2 J aa I; have kj := ge aj J; have eJ := ne ah J; have aw := mv I aj; have au := mv I ah; have bU := ak (aa); clear J aa I aj ah)
  | (refine ax (some 6) rfl rfl 62 rfl dM (fun _ => by kernel_rfl) ?_; intro gZ W3 J aa I; have bO := ge aw J; have aG := ne au J; have gh := ne bU J; have aD := mv I aw; have aA := mv I au; have cR := mv I bU; have bQ := ak (aa); clear J aa I aw au bU))
 go_loopw [8, 9, 10] (fun q u _ W => ∃ k : Nat, k ≤ m ∧ u = .int .i64 k ∧ Aside0 (RX W base gX (di b k a)) ∧ Aside0 (Kd.R (Kd.int .u32) 46 W w.heap.size (fun _ => True) q (dK b k)) ∧ Aside0 (aH W gA [.string a.f0, .string a.f1] 76) ∧ Aside0 (aH W gZ dM 62) ∧ Aside0 (Below w.heap.size w W)) (fun _ u _ _ => m - (intOf u).toNat)
 case atStart => exact ⟨0, by omega, rfl, ⟨⟨M, _, _, _, HMM.out, aA.out, Kd.R_below TS.out aD.out, Kd.R_below Ud.out aD.out, Kd.R_below Uj.out aD.out⟩⟩, ⟨Kd.R_nil _ _ _ _ _⟩, cR, bQ, aD⟩
 case round =>
  clear aD aA cR bQ
  obtain ⟨k, hk, rfl, aI, bx, eO, bA, ae⟩ := hrel
  obtain ⟨W, rfl⟩ : ∃ W : World, W = wr := ⟨_, rfl⟩
  have hmn := HMN.out
  have hsum := HSUM.out
  have hszs := F8 b k a
  rw [HL.out] at hszs
  obtain ⟨M2, A2, c2, A3, c3, A4, c4, tf, Ij, Ik, Iq, It⟩ := aI.out.open
  have HRR := ak (jZ.of tf Ik Iq It)
  have hrr : M2 = (di b k a).attrs.map vc ∧ Kd.R (Kd.int .i64) 3 W base (fun _ => True) (.slice A2 (di b k a).slots.length c2) (di b k a).slots ∧ Kd.R (Kd.int .i64) 3 W base (fun _ => True) (.slice A3 (di b k a).free.length c3) (di b k a).free ∧ Kd.R hH 76 W base (fun _ => True) (.slice A4 M2.length c4) M2 := ⟨tf, Ik, Iq, It⟩
  have gv := ak Ij
  obtain ⟨Ao, co, rfl⟩ := Kd.R_slice bx.out
  have hol := gq b k (by omega)
  obtain ⟨oo, hoo⟩ : ∃ oo, oo = dK b k := ⟨_, rfl⟩
  rw [← hoo] at bx hol
  rw [show (dK b k).length = oo.length by rw [hoo]]
  have HOL := ak hol
  have HOO := ak hoo
  clear hoo
  by_cases hkm : k < m
  ·have hkf : k < b.free.length := by omega
   have hgv := BH HP.out HK.out k hkf a
   have hfr := Cu b k a hkf
   have hmem := m9 HP.out HK.out k hkf
   obtain ⟨j, hj⟩ : ∃ j : Nat, rd b.free k = (j : Int) := ⟨(rd b.free k).toNat, by omega⟩
   have hnd := Nt (show wa b.attrs from HP.out.nd) k a
   rw [hj] at hgv hfr hmem
   rw [Int.toNat_natCast] at hgv
   have hos := mY b k hkf
   rw [hj, ← HOO.out] at hos
   have HGV := ak (fun v w h => BI (di b k a) hszs.1 (by omega) (by omega) hnd j (by omega) a v w h)
   have hkn : decide ((k : Int) < n) = true := by simp; omega
   obtain ⟨bm, hbm⟩ : ∃ bm, bm = di b k a := ⟨_, rfl⟩
   have hadr : bm.addr = b.addr := by rw [hbm]; rfl
   rw [← hbm] at gv HRR HGV hfr hgv
   have BA : 0 < bm.free.length := hfr.1
   have p0 : decide ((0 : Int) < (bm.free.length : Int)) = true := by simp; omega
   have p1 : ((0 : Int) < (bm.free.length : Int)) = True := eq_true (by omega)
   obtain ⟨ad, eA, hx⟩ := Kd.at_int HRR.out.fr 0 (by omega) (by omega)
   cases eA
   rw [show (0 : Int).toNat = 0 from rfl, hfr.2] at hx
   have SX : W.cell? ad = some (.int .i64 (j : Int)) := by rwa [Ga] at hx
   have m7 : j < 64 := by omega
   have lW : 0 ≤ bm.addr := by rw [hadr]; exact zC
   have cA : bm.addr + 64 ≤ 4294967296 := by rw [hadr]; exact kQ
   obtain ⟨o1, fh⟩ : ∃ o1, o1 = dK b (k + 1) := ⟨_, rfl⟩
   rw [← fh, ← hadr] at hos
   have kk := ak fh
   have HOS := ak hos
   have HGB := ak hgv
   have oF := gv.out.cell 3 _ rfl
   clear hgv hfr hmem hj hnd hos hszs hbm Ij hrr tf Ik Iq It hadr fh hol hmn hsum aI
   go_wp2_with (first
    | ((with_reducible refine av (N := 26) rfl ?_); refine ay rfl 62 (.tmp 3) rfl gX rfl _ _ _ gv.out Try.underlying62 rfl 5 (by kernel_rfl) rfl ?_)
    | ((with_reducible refine av (N := 28) rfl ?_); refine ay rfl 76 (.tmp 5) rfl gA rfl _ _ _ eO.out Try.underlying76 rfl 2 (by kernel_rfl) rfl ?_)
    | (go_at_call 106; refine (HGV.out _ _ ⟨M2, A2, c2, some ad, c3, A4, c4, rfl, HRR.out⟩).mono ?_; rintro e W1 ⟨v9, rfl, fF, I⟩; rw [HGB.out] at fF; obtain ⟨nb, hnb⟩ : ∃ nb, nb = di b (k + 1) a := ⟨_, rfl⟩; rw [← hnb] at fF; have HNB := ak hnb; have HNA := ak (show nb.addr = bm.addr by rw [hnb, ← HGB.out]; rfl); obtain ⟨uk, qN, qO, rfl, gg, fm, ez⟩ := fF; have HSZ := ak (lb HBW ae); obtain ⟨A7, c7, rfl⟩ := Kd.R_slice gg; obtain ⟨A8, c8, rfl⟩ := Kd.R_slice fm; obtain ⟨NM, hNM⟩ : ∃ NM, NM = nb.attrs.map vc := ⟨_, rfl⟩; rw [← hNM] at ez; have HNM := ak hNM; obtain ⟨A9, c9, rfl⟩ := Kd.R_slice ez; have ah := mv I gv; have b7 := mv I bx; have e7 := mv I eO; have bR := mv I bA; have aj := ak (ae.out.trans (I.mono ae.out.size)); have bd := ak (gg); have bg := ak (fm); have bG := ak (ez); clear hNM hnb gg fm ez I gv bx eO bA ae oF hx SX)
    | (refine aN rfl 62 (.tmp 3) (.tmp 29) rfl gX (dt nb.addr nb.aff (.slice A7 nb.slots.length c7) (.slice A8 nb.free.length c8) (.slice A9 NM.length c9)) rfl rfl 62 _ ah.out 5 (by kernel_rfl) rfl rfl (dO _ _ rfl rfl rfl) ?_; intro W2 aa J; have au := ak (aa); have ct := gr b7 ah J; have bU := gx e7 ah J; have b4 := gm bR aG J; have aw := gb aj bS J; have bF := gr bd ah J; have bM := gr bg ah J; have cw := gr bG ah J; have kK := (show W2.cell? ⟨gX, 0, none⟩ = some (.int .u32 bm.addr) from by rw [← HNA.out]; exact aa.cell 0 _ rfl); clear aa J ah b7 e7 bR aj bd bg bG)
    | ((with_reducible refine cC (b := .append) (xs := #[.tmp 30, .tmp 36]) rfl ?_); at_builtin; refine Kd.R_append (Kd.int .u32) (w0 := w) w.heap.size rfl (.tmp 30) (.tmp 36) 77 46 (.int .u32 0) 4 rfl Try.underlying77 iM rfl (by decide) (by omega) _ oo (bm.addr + (j : Int)) [.int .u32 (bm.addr + (j : Int))] (fun _ => True) (fun _ => False) rfl rfl rfl (fun _ hk => hk.elim) (fun _ _ => trivial) ct.out aw.out aw.out.size (by have := HOL.out; omega) ?_; intro v_ W3 aU I J fu; rw [← HOS.out] at aU; have aA := ak (au.out.grown J (au.out.ne_row ct.out (by decide))); have eN := ak (aU); have cR := ak (bU.out.grown J (bU.out.ne_row ct.out (by decide))); have bQ := ak (b4.out.grown J (b4.out.ne_row ct.out (by decide))); have aD := ak (I); have b6 := ak (Kd.R_over bF.out ct.out (by decide) J); have cg := ak (Kd.R_over bM.out ct.out (by decide) J); have dq := ak (Kd.R_over cw.out ct.out (by decide) J); obtain ⟨AO, cO, rfl⟩ := Kd.R_slice aU; clear aU I J fu au ct bU b4 aw bF bM cw kK))
   go_roundw
   case rel => exact ⟨k + 1, by omega, by go_num, ⟨by rw [← HNB.out]; exact ⟨_, _, _, _, HNM.out, aA.out, Kd.R_lower b6.out HSZ.out, Kd.R_lower cg.out HSZ.out, Kd.R_lower dq.out HSZ.out⟩⟩, ⟨by rw [← kk.out]; exact eN.out⟩, cR, bQ, aD⟩
   case measure => simp [intOf]; omega
  ·obtain rfl : k = m := by omega
   have hend : decide ((k : Int) < n) = false ∨ decide ((k : Int) < n) = true ∧ decide (0 < (di b k a).free.length) = false := by
    rcases hmn.2.2 with h_ | h_
    ·left; simp; omega
    ·by_cases hq : (k : Int) < n
     ·right
      refine ⟨by simp; exact hq, ?_⟩
      have : (di b k a).free.length = 0 := by
       show (b.free.drop k).length = 0
       rw [List.length_drop]
       omega
      rw [this]
      rfl
     ·left; simp; omega
   obtain ⟨bm, hbm⟩ : ∃ bm, bm = di b k a := ⟨_, rfl⟩
   rw [← hbm] at gv HRR hend hrr
   have HBM := ak hbm
   have zK := ak hrr.1
   have xA := ak hrr.2.1
   have kR := ak hrr.2.2.1
   have vr := ak hrr.2.2.2
   have oF := gv.out.cell 3 _ rfl
   clear hszs hbm Ij hrr tf Ik Iq It hol aI
   rcases hend with he | ⟨he, Pz⟩
   all_goals
    go_wp2_with (first
     | ((with_reducible refine av (N := 38) rfl ?_); refine ay rfl 62 (.tmp 3) rfl gX rfl _ _ _ gv.out Try.underlying62 rfl 5 (by kernel_rfl) rfl ?_)
     | (refine aN rfl 62 (.tmp 6) (.tmp 38) rfl gZ (dt bm.addr bm.aff (.slice A2 bm.slots.length c2) (.slice A3 bm.free.length c3) (.slice A4 M2.length c4)) rfl rfl 62 _ bA.out 5 (by kernel_rfl) rfl rfl (dO _ _ rfl rfl rfl) ?_; intro W1 aa J; have ah := gn gv aG J; have b7 := gr bx bA J; have bR := ak (aa); have bd := gr xA bA J; have bg := gr kR bA J; have bG := gr vr bA J; have aj := gb ae bO J; clear aa J gv bx bA xA kR vr ae oF))
    refine bodyPost_ret (e8 rfl _ _ gZ 62 _ (0, 0) _ rfl bR.out Try.underlying62 rfl (by kernel_rfl)) rfl ⟨_, _, rfl, ?_, by rw [← HOO.out]; exact b7.out, aj.out⟩
    rw [← HBM.out]
    exact ⟨_, _, _, rfl, bd.out, bg.out, by rw [← zK.out]; exact bG.out⟩
end Go.Proofs.Ytemhalnhbgkbcaa.V
end

section
namespace Go.Proofs.Ytemhalnhbgkbcaa.V
structure Rd (W : World) (g : Nat) (ok : Nat → Prop) (v : Value) (l : List Int) (bad : Bool) : Prop where
 box : aH W g [v, .bool bad] 137
 vw : Kd.V (Kd.int .u8) 5 W 0 ok v l
 ng : ∀ k, ok k → k ≠ g
section
variable {W W1 : World} {g : Nat} {ok : Nat → Prop} {v : Value} {l : List Int} {bad : Bool}
theorem Rd.below (h : Rd W g ok v l bad) (hb : Below W.heap.size W W1) : Rd W1 g ok v l bad := ⟨h.box.below hb, Kd.V_below h.vw hb, h.ng⟩
theorem Rd.grown (h : Rd W g ok v l bad) {row : Option Nat} (hg : W.grownBy W1 row) (hr : ∀ k, ok k → some k ≠ row) (hn : some g ≠ row) : Rd W1 g ok v l bad := ⟨h.box.grown hg hn, Kd.V_grown h.vw hg hr, h.ng⟩
end
def kM (l : List Int) (bad : Bool) (n : Int) : List Int × List Int × Bool := if bad = false ∧ 0 ≤ n ∧ n ≤ l.length then (l.take n.toNat, l.drop n.toNat, false) else ([], l, true)
end Go.Proofs.Ytemhalnhbgkbcaa.V
end

section
namespace Go.Proofs.Ytemhalnhbgkbcaa.V
def Ec (l : List Int) : Nat := l.foldl (fun n c => n * 256 + c.toNat) 0
def wM (l : List Int) (bad : Bool) : List Int × List Int × Bool := kM (kM l bad 1).2.1 ((kM l bad 1).2.2 || decide (64 < Ec (kM l bad 1).1)) (Ec (kM l bad 1).1 : Nat)
end Go.Proofs.Ytemhalnhbgkbcaa.V
end

section
namespace Go.Proofs.Ytemhalnhbgkbcaa.V
def um (l : List Int) : List Int × List Int × Bool := wM (wM l false).2.1 (wM l false).2.2
def Pb (l : List Int) : At := ⟨strOfNums (wM l false).1, strOfNums (um l).1⟩
def Cs : Nat → List Int → Bool → List At × List Int × Bool
 | 0, l, bad => ([], l, bad)
 | n + 1, l, bad => if bad = true then ([], l, true) else (Pb l :: (Cs n (um l).2.1 (um l).2.2).1, (Cs n (um l).2.1 (um l).2.2).2)
def Fc (l : List Int) (bad : Bool) : List At × List Int × Bool := Cs (Ec (kM l bad 1).1) (kM l bad 1).2.1 (kM l bad 1).2.2
theorem Rd.bound {W : World} {g : Nat} {ok : Nat → Prop} {v : Value} {l : List Int} {bad : Bool} (h : Rd W g ok v l bad) : Rd W g (fun k => ok k ∧ k < W.heap.size) v l bad := ⟨h.box, Kd.V_bound h.vw, fun k hk => h.ng k hk.1⟩
theorem Rd.mono {W : World} {g : Nat} {ok ok' : Nat → Prop} {v : Value} {l : List Int} {bad : Bool} (h : Rd W g ok v l bad) (hm : ∀ k, ok k → ok' k) (hn : ∀ k, ok' k → k ≠ g) : Rd W g ok' v l bad := ⟨h.box, Kd.V_mono h.vw hm, hn⟩
end Go.Proofs.Ytemhalnhbgkbcaa.V
end

section
namespace Go.Proofs.Ytemhalnhbgkbcaa.V
def r0 (s : ByteArray) := kM (bytesOf s) false 1
def r1 (s : ByteArray) := kM (r0 s).2.1 (r0 s).2.2 4
def r2 (s : ByteArray) := wM (r1 s).2.1 (r1 s).2.2
def r3 (s : ByteArray) := Fc (r2 s).2.1 (r2 s).2.2
def r4 (s : ByteArray) := kM (r3 s).2.1 (r3 s).2.2 64
def r5 (s : ByteArray) := kM (r4 s).2.1 (r4 s).2.2 1
def r6 (s : ByteArray) := kM (r5 s).2.1 (r5 s).2.2 (Ec (r5 s).1 : Nat)
section
variable {g : Nat} {ok : Nat → Prop} {v : Value} {W : World}
end
end Go.Proofs.Ytemhalnhbgkbcaa.V
end

section
namespace Go.Proofs.Ytemhalnhbgkbcaa.V
def sV.T6 : Bool × List (List Nat × List Nat) := (true, [([], []), ([0], [0]), ([], []), ([2], [2]), ([1, 3, 3], [1, 3])])
def sV.B6 : List Nat := [0, 1, 0, 4, 15]
theorem sV.tab6 : dP .any (opsOf Try.f38 6) = sV.T6 := by kernel_rfl
theorem sV.bits6 : dr sV.T6.2 sV.B6 = true := by kernel_rfl
end Go.Proofs.Ytemhalnhbgkbcaa.V
end

section
namespace Go.Proofs.Ytemhalnhbgkbcaa.V
attribute [local go_sem] eH eF fk fj ei eh eG eE
attribute [local go_sem high] z8
def eI.l0 : Nat → List (S85) → List (S85) → Int → Int → Option (Bool)
 | 0, _, _, _, _ => none
 | k + 1, x0, x1, zj, ld => if ld < zj then (if 0 ≤ ld then (if ld < (x0.length : Int) then (if ld < (x1.length : Int) then (if (!((((cU x0 ld).f0).toList) == (((cU x1 ld).f0).toList)) || (!((((cU x0 ld).f1).toList) == (((cU x1 ld).f1).toList)))) = true then (some false) else (eI.l0 k x0 x1 zj (wrap64 (ld + 1)))) else (none)) else (none)) else (none)) else (some true)
def eI.f (k : Nat) (l0 : List (S85)) (l1 : List (S85)) : Option (Bool) := if (l0.length : Int) = (l1.length : Int) then (eI.l0 k l0 l1 (l0.length : Int) 0) else (some false)
set_option maxHeartbeats 8000000 in
set_option maxRecDepth 100000 in
theorem eI.calls (k : Nat) (A0 : Option Addr) (c0 : Nat) (l0 : List (S85)) (A1 : Option Addr) (c1 : Nat) (l1 : List (S85)) (r : Bool) (w : World) (rh : Kd.C iR w A0 l0.length l0) (lV : l0.length ≤ c0) (tX : Kd.C iR w A1 l1.length l1) (uI : l1.length ≤ c1) (h : eI.f k l0 l1 = some r) :
  Calls Try.prog 78 #[.slice A0 l0.length c0, .slice A1 l1.length c1] w fun e w' => e = .returned (.bool r) ∧ Drawn0 w w' := by
 have G2 := Try.underlying85
 have rI := ak rh
 have KM := ak lV
 clear rh lV
 have mG := ak tX
 have DU := ak uI
 clear tX uI
 have H : (if (l0.length : Int) = (l1.length : Int) then (eI.l0 k l0 l1 (l0.length : Int) 0) else (some false)) = some r := h
 clear h
 by_cases c3 : (l0.length : Int) = (l1.length : Int)
 ·rw [if_pos c3] at H
  have nK : ((l0.length : Int) == (l1.length : Int)) = true := beq_iff_eq.mpr c3
  have B0 : ((l0.length : Int) != (l1.length : Int)) = false := bne_eq_false_iff_eq.mpr c3
  have BZ : (l0.length == l1.length) = true := by first | simpa using c3 | (simp at c3 ⊢; omega)
  clear c3
  have H' := ak H
  clear H
  go_enter Try.func78, Try.ntmps78
  go_wp2
  repeat (go_quiet (fail); try go_wp2)
  go_loopg [13] k (fun kq E3 w' => ∃ (bh : Int), E3 = .int .i64 bh ∧ Aside0 (eI.l0 kq l0 l1 (l0.length : Int) bh = some r) ∧ Aside0 (kq ≤ k) ∧ Drawn0 w w')
  case atStart => exact ⟨(0), (by first | rfl | (simp; done) | (simp [*]; done)), H', ⟨Nat.le_refl _⟩, by repeat (first | exact Drawn0.refl _ | apply Drawn0.step)⟩
  case round =>
   clear H'
   obtain ⟨bh, rfl, HA, dC, ⟨m1, rfl⟩⟩ := hrel
   cases gk with
   | zero => exact absurd HA.out (by simp [eI.l0])
   | succ k1 =>
    have H := HA.out
    clear HA
    simp only [eI.l0] at H
    by_cases c4 : bh < (l0.length : Int)
    ·rw [if_pos c4] at H
     have uM : decide (bh < (l0.length : Int)) = true := decide_eq_true c4
     clear c4
     by_cases c5 : 0 ≤ bh
     ·rw [if_pos c5] at H
      have wy : decide (0 ≤ bh) = true := decide_eq_true c5
      clear c5
      by_cases c6 : bh < (l0.length : Int)
      ·rw [if_pos c6] at H
       have nJ : decide (bh < (l0.length : Int)) = true := decide_eq_true c6
       clear c6
       by_cases c7 : bh < (l1.length : Int)
       ·rw [if_pos c7] at H
        have qC : decide (bh < (l1.length : Int)) = true := decide_eq_true c7
        clear c7
        by_cases c8 : (!((((cU l0 bh).f0).toList) == (((cU l1 bh).f0).toList)) || (!((((cU l0 bh).f1).toList) == (((cU l1 bh).f1).toList)))) = true
        ·rw [if_pos c8] at H
         have qB : (!((((cU l0 bh).f0).toList) == (((cU l1 bh).f0).toList)) || (!((((cU l0 bh).f1).toList) == (((cU l1 bh).f1).toList)))) = true := c8
         clear c8
         obtain rfl := Option.some.inj H
         have qm : 0 ≤ (bh : Int) := of_decide_eq_true (by first | (with_reducible assumption) | assumption)
         have qe : bh < (l0.length : Int) := of_decide_eq_true (by first | (with_reducible assumption) | assumption)
         obtain ⟨L4, BL, FA, Fz⟩ := lr rI.out bh qm qe
         cases BL
         replace qm := eq_true qm
         replace qe := eq_true qe
         have ql : 0 ≤ (bh : Int) := of_decide_eq_true (by first | (with_reducible assumption) | assumption)
         have qd : bh < (l1.length : Int) := of_decide_eq_true (by first | (with_reducible assumption) | assumption)
         obtain ⟨L3, BK, Fy, Fx⟩ := lr mG.out bh ql qd
         cases BK
         replace ql := eq_true ql
         replace qd := eq_true qd
         go_wp2
         repeat (go_quiet (fail); try go_wp2)
         go_ret
         exact ⟨by first | rfl | (simp; done) | (simp [*]; done), by repeat (first | exact Drawn0.refl _ | apply Drawn0.step)⟩
        ·rw [if_neg c8] at H
         have qB : (!((((cU l0 bh).f0).toList) == (((cU l1 bh).f0).toList)) || (!((((cU l0 bh).f1).toList) == (((cU l1 bh).f1).toList)))) = false := by simpa using c8
         clear c8
         have H' := ak H
         clear H
         have qm : 0 ≤ (bh : Int) := of_decide_eq_true (by first | (with_reducible assumption) | assumption)
         have qe : bh < (l0.length : Int) := of_decide_eq_true (by first | (with_reducible assumption) | assumption)
         obtain ⟨L4, BL, FA, Fz⟩ := lr rI.out bh qm qe
         cases BL
         replace qm := eq_true qm
         replace qe := eq_true qe
         have ql : 0 ≤ (bh : Int) := of_decide_eq_true (by first | (with_reducible assumption) | assumption)
         have qd : bh < (l1.length : Int) := of_decide_eq_true (by first | (with_reducible assumption) | assumption)
         obtain ⟨L3, BK, Fy, Fx⟩ := lr mG.out bh ql qd
         cases BK
         replace ql := eq_true ql
         replace qd := eq_true qd
         go_wp2
         repeat (go_quiet (fail); try go_wp2)
         go_roundg k1
         case measure => have := dC.out; omega
         case rel => exact ⟨(wrap64 (bh + 1)), (by first | rfl | (simp; done) | (simp [*]; done)), H', ⟨by have := dC.out; omega⟩, by repeat (first | exact Drawn0.refl _ | apply Drawn0.step)⟩
       ·rw [if_neg c7] at H
        exact absurd H (by simp)
      ·rw [if_neg c6] at H
       exact absurd H (by simp)
     ·rw [if_neg c5] at H
      exact absurd H (by simp)
    ·rw [if_neg c4] at H
     have uM : decide (bh < (l0.length : Int)) = false := decide_eq_false c4
     clear c4
     obtain rfl := Option.some.inj H
     go_wp2
     repeat (go_quiet (fail); try go_wp2)
     go_ret
     exact ⟨by first | rfl | (simp; done) | (simp [*]; done), by repeat (first | exact Drawn0.refl _ | apply Drawn0.step)⟩
 ·rw [if_neg c3] at H
  have nK : ((l0.length : Int) == (l1.length : Int)) = false := beq_eq_false_iff_ne.mpr c3
  have B0 : ((l0.length : Int) != (l1.length : Int)) = true := bne_iff_ne.mpr c3
  have BZ : (l0.length == l1.length) = false := by first | simpa using c3 | (simp at c3 ⊢; omega)
  obtain rfl := Option.some.inj H
  go_enter Try.func78, Try.ntmps78
  go_wp2
  repeat (go_quiet (fail); try go_wp2)
  go_ret
  exact ⟨by first | rfl | (simp; done) | (simp [*]; done), by repeat (first | exact Drawn0.refl _ | apply Drawn0.step)⟩
end Go.Proofs.Ytemhalnhbgkbcaa.V
end

section
namespace Go.Proofs.Ytemhalnhbgkbcaa.V
attribute [local go_sem] eH eF fk fj ei eh eG eE
def b3.l0 : Nat → List Int → List Int → Int → Int → Option (Bool)
 | 0, _, _, _, _ => none
 | k + 1, x0, x1, zj, ld => if ld < zj then (if 0 ≤ ld then (if ld < (x0.length : Int) then (if ld < (x1.length : Int) then (if (rd x0 ld) = (rd x1 ld) then (b3.l0 k x0 x1 zj (wrap64 (ld + 1))) else (some false)) else (none)) else (none)) else (none)) else (some true)
def b3.f (k : Nat) (l0 : List Int) (l1 : List Int) : Option (Bool) := if (l0.length : Int) = (l1.length : Int) then (b3.l0 k l0 l1 (l0.length : Int) 0) else (some false)
set_option maxHeartbeats 8000000 in
set_option maxRecDepth 100000 in
theorem b3.calls (k : Nat) (A0 : Option Addr) (c0 : Nat) (l0 : List Int) (A1 : Option Addr) (c1 : Nat) (l1 : List Int) (r : Bool) (w : World) (rh : Kd.C (Kd.int .u8) w A0 l0.length l0) (lV : l0.length ≤ c0) (tX : Kd.C (Kd.int .u8) w A1 l1.length l1) (uI : l1.length ≤ c1) (h : b3.f k l0 l1 = some r) :
  Calls Try.prog 77 #[.slice A0 l0.length c0, .slice A1 l1.length c1] w fun e w' => e = .returned (.bool r) ∧ Drawn0 w w' := by
 have rI := ak rh
 have KM := ak lV
 clear rh lV
 have mG := ak tX
 have DU := ak uI
 clear tX uI
 have H : (if (l0.length : Int) = (l1.length : Int) then (b3.l0 k l0 l1 (l0.length : Int) 0) else (some false)) = some r := h
 clear h
 by_cases c3 : (l0.length : Int) = (l1.length : Int)
 ·rw [if_pos c3] at H
  have nK : ((l0.length : Int) == (l1.length : Int)) = true := beq_iff_eq.mpr c3
  have B0 : ((l0.length : Int) != (l1.length : Int)) = false := bne_eq_false_iff_eq.mpr c3
  have BZ : (l0.length == l1.length) = true := by first | simpa using c3 | (simp at c3 ⊢; omega)
  clear c3
  have H' := ak H
  clear H
  go_enter Try.func77, Try.ntmps77
  go_wp2
  repeat (go_quiet (fail); try go_wp2)
  go_loopg [13] k (fun kq E3 w' => ∃ (bh : Int), E3 = .int .i64 bh ∧ Aside0 (b3.l0 kq l0 l1 (l0.length : Int) bh = some r) ∧ Aside0 (kq ≤ k) ∧ Drawn0 w w')
  case atStart => exact ⟨(0), (by first | rfl | (simp; done) | (simp [*]; done)), H', ⟨Nat.le_refl _⟩, by repeat (first | exact Drawn0.refl _ | apply Drawn0.step)⟩
  case round =>
   clear H'
   obtain ⟨bh, rfl, HA, dC, ⟨m1, rfl⟩⟩ := hrel
   cases gk with
   | zero => exact absurd HA.out (by simp [b3.l0])
   | succ k1 =>
    have H := HA.out
    clear HA
    simp only [b3.l0] at H
    by_cases c4 : bh < (l0.length : Int)
    ·rw [if_pos c4] at H
     have uM : decide (bh < (l0.length : Int)) = true := decide_eq_true c4
     clear c4
     by_cases c5 : 0 ≤ bh
     ·rw [if_pos c5] at H
      have wy : decide (0 ≤ bh) = true := decide_eq_true c5
      clear c5
      by_cases c6 : bh < (l0.length : Int)
      ·rw [if_pos c6] at H
       have nJ : decide (bh < (l0.length : Int)) = true := decide_eq_true c6
       clear c6
       by_cases c7 : bh < (l1.length : Int)
       ·rw [if_pos c7] at H
        have qC : decide (bh < (l1.length : Int)) = true := decide_eq_true c7
        clear c7
        by_cases c8 : (rd l0 bh) = (rd l1 bh)
        ·rw [if_pos c8] at H
         have qB : ((rd l0 bh) == (rd l1 bh)) = true := beq_iff_eq.mpr c8
         have BV : ((rd l0 bh) != (rd l1 bh)) = false := bne_eq_false_iff_eq.mpr c8
         clear c8
         have H' := ak H
         clear H
         have qo : 0 ≤ (bh : Int) := of_decide_eq_true (by first | (with_reducible assumption) | assumption)
         have qg : bh < (l0.length : Int) := of_decide_eq_true (by first | (with_reducible assumption) | assumption)
         obtain ⟨L6, BN, FC⟩ := Kd.at_int rI.out bh qo qg
         cases BN
         replace qo := eq_true qo
         replace qg := eq_true qg
         have qn : 0 ≤ (bh : Int) := of_decide_eq_true (by first | (with_reducible assumption) | assumption)
         have qf : bh < (l1.length : Int) := of_decide_eq_true (by first | (with_reducible assumption) | assumption)
         obtain ⟨L5, BM, FB⟩ := Kd.at_int mG.out bh qn qf
         cases BM
         replace qn := eq_true qn
         replace qf := eq_true qf
         go_wp2
         repeat (go_quiet (fail); try go_wp2)
         go_roundg k1
         case measure => have := dC.out; omega
         case rel => exact ⟨(wrap64 (bh + 1)), (by first | rfl | (simp; done) | (simp [*]; done)), H', ⟨by have := dC.out; omega⟩, by repeat (first | exact Drawn0.refl _ | apply Drawn0.step)⟩
        ·rw [if_neg c8] at H
         have qB : ((rd l0 bh) == (rd l1 bh)) = false := beq_eq_false_iff_ne.mpr c8
         have BV : ((rd l0 bh) != (rd l1 bh)) = true := bne_iff_ne.mpr c8
         obtain rfl := Option.some.inj H
         have qo : 0 ≤ (bh : Int) := of_decide_eq_true (by first | (with_reducible assumption) | assumption)
         have qg : bh < (l0.length : Int) := of_decide_eq_true (by first | (with_reducible assumption) | assumption)
         obtain ⟨L6, BN, FC⟩ := Kd.at_int rI.out bh qo qg
         cases BN
         replace qo := eq_true qo
         replace qg := eq_true qg
         have qn : 0 ≤ (bh : Int) := of_decide_eq_true (by first | (with_reducible assumption) | assumption)
         have qf : bh < (l1.length : Int) := of_decide_eq_true (by first | (with_reducible assumption) | assumption)
         obtain ⟨L5, BM, FB⟩ := Kd.at_int mG.out bh qn qf
         cases BM
         replace qn := eq_true qn
         replace qf := eq_true qf
         go_wp2
         repeat (go_quiet (fail); try go_wp2)
         go_ret
         exact ⟨by first | rfl | (simp; done) | (simp [*]; done), by repeat (first | exact Drawn0.refl _ | apply Drawn0.step)⟩
       ·rw [if_neg c7] at H
        exact absurd H (by simp)
      ·rw [if_neg c6] at H
       exact absurd H (by simp)
     ·rw [if_neg c5] at H
      exact absurd H (by simp)
    ·rw [if_neg c4] at H
     have uM : decide (bh < (l0.length : Int)) = false := decide_eq_false c4
     clear c4
     obtain rfl := Option.some.inj H
     go_wp2
     repeat (go_quiet (fail); try go_wp2)
     go_ret
     exact ⟨by first | rfl | (simp; done) | (simp [*]; done), by repeat (first | exact Drawn0.refl _ | apply Drawn0.step)⟩
 ·rw [if_neg c3] at H
  have nK : ((l0.length : Int) == (l1.length : Int)) = false := beq_eq_false_iff_ne.mpr c3
  have B0 : ((l0.length : Int) != (l1.length : Int)) = true := bne_iff_ne.mpr c3
  have BZ : (l0.length == l1.length) = false := by first | simpa using c3 | (simp at c3 ⊢; omega)
  obtain rfl := Option.some.inj H
  go_enter Try.func77, Try.ntmps77
  go_wp2
  repeat (go_quiet (fail); try go_wp2)
  go_ret
  exact ⟨by first | rfl | (simp; done) | (simp [*]; done), by repeat (first | exact Drawn0.refl _ | apply Drawn0.step)⟩
end Go.Proofs.Ytemhalnhbgkbcaa.V
end

section
namespace Go.Proofs.Ytemhalnhbgkbcaa.V
theorem Od (l : List Int) (hl : l.length ≤ 1000) : b3.f (l.length + 5) l l = some true := by
 have key : ∀ (d i k : Nat), i + d = l.length → d < k → b3.l0 k l l (l.length : Int) (i : Int) = some true := by
  intro d
  induction d with
  | zero =>
   intro i k hi hk
   obtain ⟨k, rfl⟩ : ∃ m, k = m + 1 := ⟨k - 1, by omega⟩
   rw [b3.l0, if_neg (by omega)]
  | succ d ih =>
   intro i k hi hk
   obtain ⟨k, rfl⟩ : ∃ m, k = m + 1 := ⟨k - 1, by omega⟩
   have e := ih (i + 1) k (by omega) (by omega)
   rw [b3.l0]
   simp only [show (i : Int) < (l.length : Int) by omega, show (0 : Int) ≤ (i : Int) by omega, if_true]
   rw [g8 ((i : Int) + 1) (by omega) (by omega), show (i : Int) + 1 = ((i + 1 : Nat) : Int) by omega]
   simpa using e
 unfold b3.f
 rw [if_pos rfl]
 exact key l.length 0 _ (by omega) (by omega)
theorem Oc (l : List At) (hl : l.length ≤ 1000) : eI.f (l.length + 5) l l = some true := by
 have key : ∀ (d i k : Nat), i + d = l.length → d < k → eI.l0 k l l (l.length : Int) (i : Int) = some true := by
  intro d
  induction d with
  | zero =>
   intro i k hi hk
   obtain ⟨k, rfl⟩ : ∃ m, k = m + 1 := ⟨k - 1, by omega⟩
   rw [eI.l0, if_neg (by omega)]
  | succ d ih =>
   intro i k hi hk
   obtain ⟨k, rfl⟩ : ∃ m, k = m + 1 := ⟨k - 1, by omega⟩
   have e := ih (i + 1) k (by omega) (by omega)
   rw [eI.l0]
   simp only [show (i : Int) < (l.length : Int) by omega, show (0 : Int) ≤ (i : Int) by omega, if_true]
   rw [g8 ((i : Int) + 1) (by omega) (by omega), show (i : Int) + 1 = ((i + 1 : Nat) : Int) by omega]
   simpa using e
 unfold eI.f
 rw [if_pos rfl]
 exact key l.length 0 _ (by omega) (by omega)
set_option maxHeartbeats 4000000 in
set_option maxRecDepth 100000 in
theorem GG (b : Bk) (hfl : b.free.length ≤ 1000) (hal : b.attrs.length ≤ 1000) (v v' : Value) (w : World) (h : gi w v b) (h' : gi w v' b) :
  Calls Try.prog 40 #[v, v'] w fun e w' => e = .returned (.bool true) ∧ Below w.heap.size w w' := by
 obtain ⟨A, c, A', c', rfl, hr⟩ := h
 obtain ⟨B, d, B', d', rfl, hq⟩ := h'
 have HL := ak hr.l64
 have HR := ak hr
 have HQ := ak hq
 have Ue := ak (Od b.free hfl)
 have HEA := ak (Oc b.attrs hal)
 have HLN := ak (show (Try.prog.info? 47).map (·.size) = some (b.slots.map (Value.int .u8)).length by rw [List.length_map, hr.l64]; kernel_rfl)
 have hEq := fun (d : Nat) (w : World) => wg (P := Try.prog) w .u8 d 47 5 64 Try.underlying47 Try.underlying5 Ie b.slots b.slots hr.l64 hr.l64
 simp only [beq_self_eq_true] at hEq
 clear hr hq hfl hal
 go_enter Try.func40, Try.ntmps40
 go_wp2_with (first
  | (refine aE rfl 57 (.tmp 0) rfl _ rfl ?_; intro g W1 hg hbx cA; have im := ak hbx; have cn := ak cA; clear hbx cA hg)
  | (refine aE rfl 57 (.tmp 1) rfl _ rfl ?_; intro g' W2 hg' hbx' eU; have gv := ak (im.out.below eU); have tg := ak hbx'; have jz := ak (cn.out.trans (eU.mono cn.out.size)); have h0 := gv.out.cell 0 _ rfl; have Vu := tg.out.cell 0 _ rfl; have h1 := gv.out.cell 1 _ rfl; have Vt := tg.out.cell 1 _ rfl; have Iw := gv.out.cell 66 _ (fR _ _ _ _ _ HL.out); have U5 := tg.out.cell 66 _ (fR _ _ _ _ _ HL.out); clear hbx' eU hg' im cn)
  | ((with_reducible refine av (N := 19) rfl ?_); refine fo (by rfl) ?_; refine fi rfl 47 (.tmp 18) rfl g 2 rfl 57 _ (b.slots.map (Value.int .u8)) (.array 64 5) gv.out (kX _ _ _ _ _ HL.out) Try.underlying47 rfl HLN.out ?_)
  | ((with_reducible refine av (N := 21) rfl ?_); refine fo (by rfl) ?_; refine fi rfl 47 (.tmp 20) rfl g' 2 rfl 57 _ (b.slots.map (Value.int .u8)) (.array 64 5) tg.out (kX _ _ _ _ _ HL.out) Try.underlying47 rfl HLN.out ?_)
  | (go_at_call 77; refine (b3.calls _ A c b.free B d b.free true _ (HR.out.below jz.out).fr HR.out.fc (HQ.out.below jz.out).fr HQ.out.fc Ue.out).mono ?_; rintro e W3 ⟨rfl, ⟨n3, rfl⟩⟩; have pE := (gv.out.below (af (Below.refl _ _) n3)).cell 67 _ (fz _ _ _ _ _ HL.out); have U4 := (tg.out.below (af (Below.refl _ _) n3)).cell 67 _ (fz _ _ _ _ _ HL.out); have jO := ak (af jz.out n3))
  | (go_at_call 78; refine (eI.calls _ A' c' b.attrs B' d' b.attrs true _ (HR.out.below jO.out).ar HR.out.ac (HQ.out.below jO.out).ar HQ.out.ac HEA.out).mono ?_; rintro e W4 ⟨rfl, ⟨n4, rfl⟩⟩; have ox := ak (af jO.out n4)))
 go_ret
 exact ⟨rfl, by apply af; exact jz.out⟩
end Go.Proofs.Ytemhalnhbgkbcaa.V
end

section
namespace Go.Proofs.Ytemhalnhbgkbcaa.V
attribute [local go_sem] eH eF fk fj ei eh eG eE
def jc.f (k : Nat) (a0 : ByteArray) : Option (Bool) := if a0.toList = ([] : List UInt8) then (some true) else ((az.f k a0).bind fun sM => (some sM))
set_option maxHeartbeats 8000000 in
set_option maxRecDepth 100000 in
theorem jc.calls (k : Nat) (a0 : ByteArray) (r : Bool) (w : World) (h : jc.f k a0 = some r) :
  Calls Try.prog 42 #[.string a0] w fun e w' => e = .returned (.bool r) ∧ Drawn0 w w' := by
 have H : (if a0.toList = ([] : List UInt8) then (some true) else ((az.f k a0).bind fun sM => (some sM))) = some r := h
 clear h
 by_cases c2 : a0.toList = ([] : List UInt8)
 ·rw [if_pos c2] at H
  have sB : (a0.toList == ([] : List UInt8)) = true := beq_iff_eq.mpr c2
  have y8 : (a0.toList != ([] : List UInt8)) = false := bne_eq_false_iff_eq.mpr c2
  clear c2
  obtain rfl := Option.some.inj H
  go_enter Try.func42, Try.ntmps42
  go_wp2
  go_ret
  exact ⟨by first | rfl | (simp; done) | (simp [*]; done), by repeat (first | exact Drawn0.refl _ | apply Drawn0.step)⟩
 ·rw [if_neg c2] at H
  have sB : (a0.toList == ([] : List UInt8)) = false := beq_eq_false_iff_ne.mpr c2
  have y8 : (a0.toList != ([] : List UInt8)) = true := bne_iff_ne.mpr c2
  replace H := Option.bind_eq_some_iff.mp H
  obtain ⟨sM, sn, H⟩ := H
  replace H : (some sM) = some r := H
  have A3 := ak sn
  clear sn
  obtain rfl := Option.some.inj H
  go_enter Try.func42, Try.ntmps42
  go_wp2_with (first | (go_at_call 81; (with_reducible refine (az.calls k a0 sM _ A3.out).mono ?_); rintro e w' ⟨rfl, ⟨nd, rfl⟩⟩))
  go_ret
  exact ⟨by first | rfl | (simp; done) | (simp [*]; done), by repeat (first | exact Drawn0.refl _ | apply Drawn0.step)⟩
end Go.Proofs.Ytemhalnhbgkbcaa.V
end

section
namespace Go.Proofs.Ytemhalnhbgkbcaa.V
attribute [local go_sem] eH eF fk fj ei eh eG eE
def j3.f (k : Nat) (br : ByteArray) (bB : ByteArray) : Option (Bool) := (az.f k br).bind fun sL => (if sL = true then ((az.f k bB).bind fun mO => (some mO)) else (some false))
set_option maxHeartbeats 8000000 in
set_option maxRecDepth 100000 in
theorem j3.calls (k : Nat) (br : ByteArray) (bB : ByteArray) (r : Bool) (w : World) (h : j3.f k br bB = some r) :
  Calls Try.prog 60 #[.agg #[.string br, .string bB]] w fun e w' => e = .returned (.bool r) ∧ Below w.heap.size w w' := by
 have MN := Try.underlying76
 have HB := ak (Below.refl w.heap.size w)
 have H : ((az.f k br).bind fun sL => (if sL = true then ((az.f k bB).bind fun mO => (some mO)) else (some false))) = some r := h
 clear h
 replace H := Option.bind_eq_some_iff.mp H
 obtain ⟨sL, zN, H⟩ := H
 replace H : (if sL = true then ((az.f k bB).bind fun mO => (some mO)) else (some false)) = some r := H
 have A2 := ak zN
 clear zN
 by_cases c3 : sL = true
 ·subst c3
  have H1 : ((az.f k bB).bind fun mO => (some mO)) = some r := by rw [if_pos rfl] at H; exact H
  clear H
  have H := H1
  clear H1
  replace H := Option.bind_eq_some_iff.mp H
  obtain ⟨mO, Gw, H⟩ := H
  replace H : (some mO) = some r := H
  have A4 := ak Gw
  clear Gw
  obtain rfl := Option.some.inj H
  go_enter Try.func60, Try.ntmps60
  go_wp2_with (first | ((with_reducible refine av (N := 1) rfl ?_); refine fb ?hg (N := 1) ?hd (cs := #[.string br, .string bB]) (t := 76) ?hr ?_; (case hd => rfl); (case hg => rfl); (case hr => first | (go_simp; done) | (go_simp; rfl)); intro mi hg w5 hbox hb; have cD := ak (bE (by repeat (first | (with_reducible first | exact HB.out | apply al | apply af | apply aq) | exact HB.out)) hb); have cT := ak (hbox); have dk := ak ((by rw [hg]; exact (bs (by repeat (first | (with_reducible first | exact HB.out | apply al | apply af | apply aq) | exact HB.out))) : w.heap.size ≤ mi)); have dS := ak ((by rw [hg]; exact (bs (by repeat (first | (with_reducible first | exact HB.out | apply al | apply af | apply aq) | exact HB.out))) : w.heap.size ≤ mi)); clear HB; have HB := cD; have mC := cT; have Mi := dk; have zg := dS; clear cD cT dk dS; clear hb hbox hg; have BD : w5.cell? ⟨mi, 0, none⟩ = some (.string br) := (aC mC.out 0).trans rfl; have BC : w5.cell? ⟨mi, 1, none⟩ = some (.string bB) := (aC mC.out 1).trans rfl; have By := ao mC.out 0; have Bx := ao mC.out 1) | ((with_reducible refine fL (f := 81) rfl ?_); refine kL (some 5) rfl rfl Try.func81 (by kernel_rfl) rfl #[.string br] rfl (by (try simp only [List.map_toArray, List.map_cons, List.map_nil]); first | done | rfl | (simp only [List.length_drop, List.length_take]; rfl)) ?_; (with_reducible refine (az.calls k br true _ A2.out).mono ?_); rintro e w' ⟨rfl, ⟨nd, rfl⟩⟩; refine ⟨_, rfl, ?_⟩) | (go_at_call 81; (with_reducible refine (az.calls k bB mO _ A4.out).mono ?_); rintro e w' ⟨rfl, ⟨nd, rfl⟩⟩))
  go_ret
  exact ⟨by first | rfl | (simp [cy, cx] <;> rfl) | (simp [*, cy, cx] <;> rfl), by repeat (first | (with_reducible first | exact HB.out | apply al | apply af | apply aq | refine aQ ?_ zg.out) | exact HB.out)⟩
 ·replace c3 := Bool.eq_false_iff.mpr c3
  subst c3
  have H1 : (some false) = some r := by rw [if_neg (show ¬ (false = true) by decide)] at H; exact H
  clear H
  have H := H1
  clear H1
  obtain rfl := Option.some.inj H
  go_enter Try.func60, Try.ntmps60
  go_wp2_with (first | ((with_reducible refine av (N := 1) rfl ?_); refine fb ?hg (N := 1) ?hd (cs := #[.string br, .string bB]) (t := 76) ?hr ?_; (case hd => rfl); (case hg => rfl); (case hr => first | (go_simp; done) | (go_simp; rfl)); intro mi hg w7 hbox hb; have cD := ak (bE (by repeat (first | (with_reducible first | exact HB.out | apply al | apply af | apply aq) | exact HB.out)) hb); have cT := ak (hbox); have dk := ak ((by rw [hg]; exact (bs (by repeat (first | (with_reducible first | exact HB.out | apply al | apply af | apply aq) | exact HB.out))) : w.heap.size ≤ mi)); have dS := ak ((by rw [hg]; exact (bs (by repeat (first | (with_reducible first | exact HB.out | apply al | apply af | apply aq) | exact HB.out))) : w.heap.size ≤ mi)); clear HB; have HB := cD; have mC := cT; have Mi := dk; have zg := dS; clear cD cT dk dS; clear hb hbox hg; have FN : w7.cell? ⟨mi, 0, none⟩ = some (.string br) := (aC mC.out 0).trans rfl; have FM : w7.cell? ⟨mi, 1, none⟩ = some (.string bB) := (aC mC.out 1).trans rfl; have FL := ao mC.out 0; have FJ := ao mC.out 1) | ((with_reducible refine fL (f := 81) rfl ?_); refine kL (some 5) rfl rfl Try.func81 (by kernel_rfl) rfl #[.string br] rfl (by (try simp only [List.map_toArray, List.map_cons, List.map_nil]); first | done | rfl | (simp only [List.length_drop, List.length_take]; rfl)) ?_; (with_reducible refine (az.calls k br false _ A2.out).mono ?_); rintro e w' ⟨rfl, ⟨nd, rfl⟩⟩; refine ⟨_, rfl, ?_⟩))
  go_ret
  exact ⟨by first | rfl | (simp [cy, cx] <;> rfl) | (simp [*, cy, cx] <;> rfl), by repeat (first | (with_reducible first | exact HB.out | apply al | apply af | apply aq | refine aQ ?_ zg.out) | exact HB.out)⟩
end Go.Proofs.Ytemhalnhbgkbcaa.V
end

section
namespace Go.Proofs.Ytemhalnhbgkbcaa.V
attribute [local go_sem] eH eF fk fj ei eh eG eE
def cX.l0 : Nat → Int → Int → List Int → Int → Int → Option (Int)
 | 0, _, _, _, _, _ => none
 | k + 1, x1, x5, x8, x9, Dd => if Dd < x9 then (if 0 ≤ Dd then (if Dd < (x8.length : Int) then (if (rd x8 Dd) = x1 then (cX.l0 k x1 (wrap64 (x5 + 1)) x8 x9 (wrap64 (Dd + 1))) else (cX.l0 k x1 x5 x8 x9 (wrap64 (Dd + 1)))) else (none)) else (none)) else (some x5)
def cX.f (k : Nat) (l0 : List Int) (a1 : Int) : Option (Int) := cX.l0 k a1 0 l0 (l0.length : Int) 0
set_option maxHeartbeats 8000000 in
set_option maxRecDepth 100000 in
theorem cX.calls (k : Nat) (A0 : Option Addr) (c0 : Nat) (l0 : List Int) (a1 : Int) (r : Int) (w : World) (rh : Kd.C (Kd.int .i64) w A0 l0.length l0) (lV : l0.length ≤ c0) (h : cX.f k l0 a1 = some r) :
  Calls Try.prog 68 #[.slice A0 l0.length c0, .int .i64 a1] w fun e w' => e = .returned (.int .i64 r) ∧ Drawn0 w w' := by
 have rI := ak rh
 have KM := ak lV
 clear rh lV
 have H : (cX.l0 k a1 0 l0 (l0.length : Int) 0) = some r := h
 clear h
 have H' := ak H
 clear H
 go_enter Try.func68, Try.ntmps68
 go_wp2
 go_loopg [5, 10] k (fun kq v5 v10 w' => ∃ (Az : Int) (iu : Int), v5 = .int .i64 Az ∧ v10 = .int .i64 iu ∧ Aside0 (cX.l0 kq a1 Az l0 (l0.length : Int) iu = some r) ∧ Aside0 (kq ≤ k) ∧ Drawn0 w w')
 case atStart => exact ⟨(0), (0), (by first | rfl | (simp; done) | (simp [*]; done)), (by first | rfl | (simp; done) | (simp [*]; done)), H', ⟨Nat.le_refl _⟩, by repeat (first | exact Drawn0.refl _ | apply Drawn0.step)⟩
 case round =>
  clear H'
  obtain ⟨Az, iu, rfl, rfl, HA, dC, ⟨m1, rfl⟩⟩ := hrel
  cases gk with
  | zero => exact absurd HA.out (by simp [cX.l0])
  | succ k1 =>
   have H := HA.out
   clear HA
   simp only [cX.l0] at H
   by_cases c3 : iu < (l0.length : Int)
   ·rw [if_pos c3] at H
    have nK : decide (iu < (l0.length : Int)) = true := decide_eq_true c3
    clear c3
    by_cases c4 : 0 ≤ iu
    ·rw [if_pos c4] at H
     have uM : decide (0 ≤ iu) = true := decide_eq_true c4
     clear c4
     by_cases c5 : iu < (l0.length : Int)
     ·rw [if_pos c5] at H
      have wy : decide (iu < (l0.length : Int)) = true := decide_eq_true c5
      clear c5
      by_cases c6 : (rd l0 iu) = a1
      ·rw [if_pos c6] at H
       have nJ : ((rd l0 iu) == a1) = true := beq_iff_eq.mpr c6
       have Qj : ((rd l0 iu) != a1) = false := bne_eq_false_iff_eq.mpr c6
       clear c6
       have H' := ak H
       clear H
       have qp : 0 ≤ (iu : Int) := of_decide_eq_true (by first | (with_reducible assumption) | assumption)
       have qh : iu < (l0.length : Int) := of_decide_eq_true (by first | (with_reducible assumption) | assumption)
       obtain ⟨L7, BO, FD⟩ := Kd.at_int rI.out iu qp qh
       cases BO
       replace qp := eq_true qp
       replace qh := eq_true qh
       go_wp2
       go_roundg k1
       case measure => have := dC.out; omega
       case rel => exact ⟨(wrap64 (Az + 1)), (wrap64 (iu + 1)), (by first | rfl | (simp; done) | (simp [*]; done)), (by first | rfl | (simp; done) | (simp [*]; done)), H', ⟨by have := dC.out; omega⟩, by repeat (first | exact Drawn0.refl _ | apply Drawn0.step)⟩
      ·rw [if_neg c6] at H
       have nJ : ((rd l0 iu) == a1) = false := beq_eq_false_iff_ne.mpr c6
       have Qj : ((rd l0 iu) != a1) = true := bne_iff_ne.mpr c6
       have H' := ak H
       clear H
       have qp : 0 ≤ (iu : Int) := of_decide_eq_true (by first | (with_reducible assumption) | assumption)
       have qh : iu < (l0.length : Int) := of_decide_eq_true (by first | (with_reducible assumption) | assumption)
       obtain ⟨L7, BO, FD⟩ := Kd.at_int rI.out iu qp qh
       cases BO
       replace qp := eq_true qp
       replace qh := eq_true qh
       go_wp2
       go_roundg k1
       case measure => have := dC.out; omega
       case rel => exact ⟨(Az), (wrap64 (iu + 1)), (by first | rfl | (simp; done) | (simp [*]; done)), (by first | rfl | (simp; done) | (simp [*]; done)), H', ⟨by have := dC.out; omega⟩, by repeat (first | exact Drawn0.refl _ | apply Drawn0.step)⟩
     ·rw [if_neg c5] at H
      exact absurd H (by simp)
    ·rw [if_neg c4] at H
     exact absurd H (by simp)
   ·rw [if_neg c3] at H
    have nK : decide (iu < (l0.length : Int)) = false := decide_eq_false c3
    clear c3
    obtain rfl := Option.some.inj H
    go_wp2
    go_ret
    exact ⟨by first | rfl | (simp; done) | (simp [*]; done), by repeat (first | exact Drawn0.refl _ | apply Drawn0.step)⟩
end Go.Proofs.Ytemhalnhbgkbcaa.V
end

section
namespace Go.Proofs.Ytemhalnhbgkbcaa.V
theorem gi.R {W : World} {b : Bk} {A A' : Option Addr} {c c' : Nat} (h : BkR W b A c A' c') : gi W (.agg (aX b.addr b.aff b.slots (.slice A b.free.length c) (.slice A' b.attrs.length c')).toArray) b := ⟨A, c, A', c', rfl, h⟩
end Go.Proofs.Ytemhalnhbgkbcaa.V
end

section
namespace Go.Proofs.Ytemhalnhbgkbcaa.V
theorem My (l : List Int) (i : Nat) (h : i < l.length) : rd l (i : Int) = l[i] := by simp [rd, List.getD, h]
theorem LW (l : List Int) (hl : l.length ≤ 1000) (x : Int) (k : Nat) (hk : l.length < k) : cX.f k l x = some ((l.count x : Nat) : Int) := by
 have key : ∀ (d k i c : Nat), i + d = l.length → d < k → c ≤ i → cX.l0 k x (c : Int) l (l.length : Int) (i : Int) = some ((c + (l.drop i).count x : Nat) : Int) := by
  intro d
  induction d with
  | zero =>
   intro k i c hi hk hc
   obtain ⟨k, rfl⟩ : ∃ m, k = m + 1 := ⟨k - 1, by omega⟩
   rw [cX.l0, if_neg (by omega), List.drop_of_length_le (by omega)]
   simp
  | succ d ih =>
   intro k i c hi hk hc
   obtain ⟨k, rfl⟩ : ∃ m, k = m + 1 := ⟨k - 1, by omega⟩
   have hil : i < l.length := by omega
   rw [cX.l0, if_pos (by omega), if_pos (by omega), if_pos (by omega), My l i hil, g8 ((i : Int) + 1) (by omega) (by omega), g8 ((c : Int) + 1) (by omega) (by omega), List.drop_eq_getElem_cons hil, List.count_cons]
   by_cases h : l[i] = x
   ·rw [if_pos h, show (c : Int) + 1 = ((c + 1 : Nat) : Int) by omega, show (i : Int) + 1 = ((i + 1 : Nat) : Int) by omega, ih k (i + 1) (c + 1) (by omega) (by omega) (by omega)]
    simp [h]
    omega
   ·rw [if_neg h, show (i : Int) + 1 = ((i + 1 : Nat) : Int) by omega, ih k (i + 1) c (by omega) (by omega) (by omega)]
    simp [h]
 unfold cX.f
 rw [show (0 : Int) = ((0 : Nat) : Int) from rfl, key l.length k 0 0 (by omega) hk (by omega)]
 simp
section
variable (addr : Int) (aff : ByteArray) (sl fr : List Int) (M : List S76)
end
end Go.Proofs.Ytemhalnhbgkbcaa.V
end

section
namespace Go.Proofs.Ytemhalnhbgkbcaa.V
def oU : Nat → Bk → Bk
 | 0, c => c
 | j + 1, c => oU j (if dN c.slots j = true then c else j6 c j)
theorem DJ {k : IntKind} {e base : Nat} {ok : Nat → Prop} {W W1 : World} {v : Value} {xs : List Int} (h : Kd.R (Kd.int k) e W base ok v xs) {row : Option Nat} (hg : W.grownBy W1 row) (hne : ∀ q, v.ownBlock = some q → some q ≠ row) : Kd.R (Kd.int k) e W1 base ok v xs := by
 have h1 := Kd.R_flat (ok' := fun q => ok q ∧ some q = v.ownBlock) (fun {_ _ _ _} hx => hx) h (fun q hq ho => ⟨ho, hq.symm⟩)
 exact Kd.R_mono (Kd.R_grown h1 hg (fun q hq => hne q hq.2.symm)) (fun _ hq => hq.1)
theorem CQ (l : List Int) (k : Nat) : dN l k = !decide (l.count ((k + 1 : Nat) : Int) = 0) := by
 unfold dN
 rw [Bool.eq_iff_iff, List.any_eq_true]
 constructor
 ·rintro ⟨s, hs, he⟩
  rw [beq_iff_eq] at he
  subst he
  have := List.count_pos_iff.2 hs
  rw [Bool.not_eq_true', decide_eq_false_iff_not]
  omega
 ·intro h
  simp only [Bool.not_eq_true', decide_eq_false_iff_not] at h
  have : 0 < l.count ((k + 1 : Nat) : Int) := by omega
  exact ⟨_, List.count_pos_iff.1 this, by rw [beq_iff_eq]⟩
theorem LO {b : Bk} {k : Nat} (h : nN b.slots) : nN (j6 b k).slots := by
 intro x hx
 obtain ⟨s, hs, rfl⟩ := List.mem_map.1 hx
 have := h s hs
 unfold kV
 split <;> omega
theorem Hl (b : Bk) (k : Nat) (h : k < b.attrs.length) : (j6 b k).slots.length = b.slots.length ∧ (j6 b k).free = b.free ∧ (j6 b k).attrs.length + 1 = b.attrs.length := by
 refine ⟨by simp [j6], rfl, ?_⟩
 show (b.attrs.take k ++ b.attrs.drop (k + 1)).length + 1 = _
 rw [List.length_append, List.length_take, List.length_drop]
 omega
structure DropInv (bn : Bk) (k : Nat) (c : Bk) : Prop where
 eq : oU k c = oU bn.attrs.length bn
 le : k ≤ c.attrs.length
 a64 : c.attrs.length ≤ 64
 l64 : c.slots.length = 64
 s8 : nN c.slots
 fl : c.free.length ≤ 2000
theorem DropInv.ka {bn : Bk} {k : Nat} {c : Bk} (h : DropInv bn (k + 1) c) : k < c.attrs.length := by have := h.le; omega
theorem DropInv.keep {bn : Bk} {k : Nat} {c : Bk} (h : DropInv bn (k + 1) c) (hu : dN c.slots k = true) : DropInv bn k c := by
 refine ⟨?_, by have := h.le; omega, h.a64, h.l64, h.s8, h.fl⟩
 rw [← h.eq]
 show _ = oU k (if dN c.slots k = true then c else j6 c k)
 rw [if_pos hu]
theorem DropInv.drop {bn : Bk} {k : Nat} {c : Bk} (h : DropInv bn (k + 1) c) (hu : dN c.slots k = false) : DropInv bn k (j6 c k) := by
 obtain ⟨h1, h2, h3⟩ := Hl c k h.ka
 refine ⟨?_, by have := h.le; omega, by have := h.a64; omega, by rw [h1]; exact h.l64, LO h.s8, by rw [h2]; exact h.fl⟩
 rw [← h.eq]
 show _ = oU k (if dN c.slots k = true then c else j6 c k)
 rw [if_neg (by rw [hu]; decide)]
theorem D9 (b : Bk) (hl : b.slots.length = 64) (As : Option Addr) (cs : Nat) (hsr : b.slots.length ≤ cs) (k : Nat) (w : World) (hr : Kd.C (Kd.int .i64) w As b.slots.length b.slots) :
  Calls Try.prog 68 #[.slice As b.slots.length cs, .int .i64 (((k + 1 : Nat) : Int))] w fun e w' => e = .returned (.int .i64 ((b.slots.count ((k + 1 : Nat) : Int) : Nat) : Int)) ∧ Below w.heap.size w w' :=
 (cX.calls 100 As cs b.slots _ _ w hr hsr (LW b.slots (by omega) _ 100 (by omega))).mono (by
  rintro e w' ⟨rfl, ⟨nd, rfl⟩⟩
  exact ⟨rfl, af (Below.refl _ _) nd⟩)
set_option maxHeartbeats 16000000 in
set_option maxRecDepth 100000 in
theorem qc (b : Bk) (hk : BkOk b) (hp : RightP b) (hl : b.slots.length = 64) (l : List Int) (hu : ∀ x ∈ l, 0 ≤ x ∧ x < 4294967296) (hll : l.length ≤ 1000) (Al : Option Addr) (cl : Nat) (v : Value) (w : World) (h : jZ w v b) (hC : Kd.C (Kd.int .u32) w Al l.length l) :
  Calls Try.prog 84 #[v, .slice Al l.length cl] w fun e w' => ∃ v' vo, e = .returned (.tuple #[v', vo]) ∧ eM w' w.heap.size v' (oU b.attrs.length (relL b l).1) ∧ Kd.R (Kd.int .u32) 46 w' w.heap.size (fun _ => True) vo (relL b l).2 ∧ Below w.heap.size w w' := by
 obtain ⟨M, Gt, F0, Gu, F3, Gv, F5, rfl, hr⟩ := h
 have hsum := hp.sum_le hk hl
 have hml : M.length = b.attrs.length := by rw [hr.m, List.length_map]
 have hrk := sQ hk hp hl l
 have HRK := ak hrk
 have xP := ak hr.m
 have HML := ak hml
 have HR := ak hr
 have HL := ak hl
 have HK := ak hk
 have HU := ak hu
 have HC := ak hC
 have Bu : M.length ≤ 64 := by omega
 have HFL := ak (show b.free.length ≤ 64 by omega)
 have HCP := ak (fun w h => z9 b (by omega) (by omega) M (by omega) Gt F0 Gu F3 Gv F5 w h)
 have ae := ak (Below.refl w.heap.size w)
 clear hr hl hml hsum hk hp hu hC hrk
 go_enter Try.func84, Try.ntmps84
 go_wp2_with (first
  | (refine aE rfl 62 (.tmp 0) rfl _ rfl ?_; intro gX W1 J aa I; have bS := ge ae J; have aj := ak (ae.out.trans (I.mono ae.out.size)); have ah := ak (aa); clear J aa I ae)
  | (refine ax (some 4) rfl rfl 62 rfl dM (fun _ => by kernel_rfl) ?_; intro gZ W2 J aa I; have bO := ge aj J; have aG := ne ah J; have aw := mv I aj; have au := mv I ah; have b4 := ak (aa); clear J aa I aj ah)
  | ((with_reducible refine av (N := 12) rfl ?_); refine ay rfl 62 (.tmp 2) rfl gX rfl _ _ _ au.out Try.underlying62 rfl 5 (by kernel_rfl) rfl ?_)
  | (go_at_call 85; refine (HCP.out _ (HR.out.below aw.out)).mono ?_; rintro e W3 ⟨vs, vf, va, rfl, te, cV, dA, I⟩; obtain ⟨As, cs, rfl⟩ := Kd.R_slice te; obtain ⟨Aa, ca, rfl⟩ := Kd.R_slice dA; obtain ⟨gs, rfl⟩ := nO te (by have h_ := HL.out; omega); have HSP := ak (show vf.ownBlock ≠ some gs from fun e_ => te.1 gs rfl e_.symm); obtain ⟨Af, cf, rfl⟩ := Kd.R_slice cV; have HSZ := ak aw.out.size; have aD := mv I aw; have aA := mv I au; have bQ := mv I b4; have b6 := ak (Kd.R_mono (ok' := fun _ => True) te (fun _ _ => trivial)); have cg := ak (Kd.R_mono (ok' := fun _ => True) cV (fun _ _ => trivial)); have dq := ak (dA); have cE := ak (I.size); clear te cV dA I aw au b4)
  | (refine aN rfl 62 (.tmp 2) (.tmp 13) rfl gX (dt b.addr b.aff (.slice (some ⟨gs, 0, none⟩) b.slots.length cs) (.slice Af b.free.length cf) (.slice Aa M.length ca)) rfl rfl 62 _ aA.out 5 (by kernel_rfl) rfl rfl (dO _ _ rfl rfl rfl) ?_; intro W4 aa J; have aW := gb aD bS J; have aV := ak (aa); have bb := gm bQ aG J; have cP := gr b6 aA J; have cd := gr cg aA J; have dw := gr dq aA J; have b5 := ak (Nat.le_trans cE.out J.size); clear aa J aD aA bQ b6 cg dq cE))
 obtain ⟨b1, cA⟩ : ∃ b1, b1 = W2.heap.size := ⟨_, rfl⟩
 rw [← cA] at cP cd dw b5 HSZ
 have cn := ak (show w.heap.size ≤ b1 from HSZ.out)
 have tS := cn
 clear cA HSZ
 go_loopw [6, 8, 9, 10, 16, 20] (fun q _ _ _ u _ W => ∃ (k : Nat) (A2 : Option Addr) (c2 : Nat), k ≤ l.length ∧ u = .int .i64 k ∧ Aside0 ((Value.slice A2 (relL b (l.take k)).1.free.length c2).ownBlock ≠ some gs) ∧ Aside0 (aH W gX (dt b.addr b.aff (.slice (some ⟨gs, 0, none⟩) b.slots.length cs) (.slice A2 (relL b (l.take k)).1.free.length c2) (.slice Aa M.length ca)) 62) ∧ Aside0 (Kd.R (Kd.int .i64) 3 W b1 (fun _ => True) (.slice (some ⟨gs, 0, none⟩) b.slots.length cs) (relL b (l.take k)).1.slots) ∧ Aside0 (Kd.R (Kd.int .i64) 3 W b1 (fun _ => True) (.slice A2 (relL b (l.take k)).1.free.length c2) (relL b (l.take k)).1.free) ∧ Aside0 (Kd.R hH 76 W b1 (fun _ => True) (.slice Aa M.length ca) M) ∧ Aside0 (Kd.R (Kd.int .u32) 46 W w.heap.size (fun _ => True) q (relL b (l.take k)).2) ∧ Aside0 (aH W gZ dM 62) ∧ Aside0 (b1 ≤ W.heap.size) ∧ Aside0 (Below w.heap.size w W)) (fun _ _ _ _ u _ _ => l.length - (intOf u).toNat)
 case atStart => exact ⟨0, Af, cf, by omega, rfl, HSP, aV, cP, cd, dw, ⟨Kd.R_nil _ _ _ _ _⟩, bb, b5, aW⟩
 case round =>
  clear HSP aW aV bb cP cd dw b5
  obtain ⟨k, A2, c2, hk, rfl, HSP, aI, aZ, bl, bL, bx, bA, ik, ae⟩ := hrel
  obtain ⟨W, rfl⟩ : ∃ W : World, W = wr := ⟨_, rfl⟩
  have hro := HRK.out k hk
  by_cases hkn : k < l.length
  ·have hkb : decide ((k : Int) < (l.length : Int)) = true := by simp; omega
   obtain ⟨ad, eA, hx⟩ := Kd.at_int (Kd.C_below HC.out ae.out) k (by omega) (by omega)
   cases eA
   rw [Int.toNat_natCast] at hx
   have p1 : ((k : Int) < (l.length : Int)) = True := eq_true (by omega)
   have hrd : rd l k = l[k] := by simp [rd, List.getD, hkn]
   have jg := HU.out _ (List.getElem_mem hkn)
   obtain ⟨x, hxx⟩ : ∃ x, l[k] = x := ⟨_, rfl⟩
   rw [hxx] at hrd jg
   rw [hrd] at hx
   have hsu := zm b l k hkn x hxx
   obtain ⟨rs, hrs⟩ : ∃ rs, rs = relL b (l.take k) := ⟨_, rfl⟩
   rw [← hrs] at hro hsu aI aZ bl bx HSP
   have hol := hro.ol
   have hfl := hro.fl
   have had := hro.addr
   have haf := hro.aff
   have hof := fun A c A' c' A2 c2 w h => pW rs.1 hro.l64 hro.s8 (by rw [hro.attrs]; exact hro.le) M A A' A2 c c' c2 w h x jg.1 jg.2
   have hmm : M = rs.1.attrs.map vc := by rw [hro.attrs]; exact xP.out
   have HSU := ak hsu
   have HLM := ak hro.l64
   obtain ⟨bm, oo⟩ := rs
   simp only at hol hfl hof aI aZ bl bx HSP HLM hmm had haf
   have hln : b.slots.length = bm.slots.length := by rw [HLM.out, HL.out]
   rw [← had, ← haf, hln] at aI
   rw [hln] at aZ
   obtain ⟨Ao, co, rfl⟩ := Kd.R_slice bx.out
   have HOF := ak hof
   have HMM := ak hmm
   have HOL := ak (show oo.length ≤ 1000 by omega)
   have HFLN := ak (show bm.free.length ≤ 2000 by have := HFL.out; omega)
   have HLN := ak hln
   have HAD := ak (show bm.addr = b.addr from had)
   have HAF := ak (show bm.aff = b.aff from haf)
   clear hro hrs hrd hxx hsu hol hfl hof hmm had haf hln
   cases hh : fy bm x with
   | false =>
    have HH := ak hh
    have HEQ := ak (show relL b (l.take (k + 1)) = (bm, oo) by rw [HSU.out]; unfold relF; rw [if_neg (by rw [hh]; decide)])
    clear hh
    go_wp2_with (first
     | ((with_reducible refine av (N := 21) rfl ?_); refine ay rfl 62 (.tmp 2) rfl gX rfl _ _ _ aI.out Try.underlying62 rfl 5 (by kernel_rfl) rfl ?_)
     | (go_at_call 62; refine (HOF.out _ _ _ _ _ _ _ (jZ.of HMM.out aZ.out bl.out bL.out)).mono ?_; rintro e W1 ⟨rfl, I⟩; rw [HH.out]; have ah := mv I aI; have bd := mv I aZ; have bg := mv I bl; have bG := mv I bL; have b7 := mv I bx; have bR := mv I bA; have iP := ak (Nat.le_trans ik.out I.size); have aj := ak (ae.out.trans (I.mono ae.out.size)); clear I aI aZ bl bL bx bA ik ae)
     | (refine ax (some 9) rfl rfl 76 rfl [.string ⟨#[]⟩, .string ⟨#[]⟩] (fun _ => by kernel_rfl) ?_; intro gV W2 J aa I; have cG := ge aj J; have ep := ne ah J; have j7 := ne bR J; have au := mv I ah; have bF := mv I bd; have bM := mv I bg; have cw := ak (Kd.R_mono (ok' := fun k_ => k_ ≠ gV) (Kd.R_below (Kd.R_bound bG.out) I) (fun k_ bV e_ => by have h_ := bV.2.2.1; omega)); have ct := mv I b7; have b4 := mv I bR; have cr := ak (Nat.le_trans iP.out I.size); have aw := mv I aj; have dF := ak (aa); clear J aa I ah bd bg bG b7 bR iP aj)
     | (refine aN rfl 76 (.tmp 9) (.tmp 24) rfl gV [.string (jd bm x).f0, .string (jd bm x).f1] rfl rfl 76 _ dF.out 2 (by kernel_rfl) rfl rfl (ia (jd bm x)) ?_; intro W3 aa J; have aA := gx au dF J; have b6 := gr bF dF J; have cg := gr bM dF J; have dq := ak (Kd.R_mono (ok' := fun _ => True) (Kd.R_grown cw.out J (fun k_ bV e_ => bV (Option.some.inj e_))) (fun _ _ => trivial)); have eN := gr ct dF J; have bQ := gx b4 dF J; have cE := ak (Nat.le_trans cr.out J.size); have aD := gb aw cG J; have l8 := ak (aa); clear aa J au bF bM cw ct b4 cr aw dF))
    go_roundw
    case rel => exact ⟨k + 1, A2, c2, by omega, by go_num, ⟨by rw [HEQ.out]; exact HSP.out⟩, ⟨by rw [HEQ.out, ← HAD.out, ← HAF.out, HLN.out]; exact aA.out⟩, ⟨by rw [HEQ.out, HLN.out]; exact b6.out⟩, ⟨by rw [HEQ.out]; exact cg.out⟩, dq, ⟨by rw [HEQ.out]; exact eN.out⟩, bQ, cE, aD⟩
    case measure => simp [intOf]; omega
   | true =>
    have HH := ak hh
    obtain ⟨S1, S0, ph, _⟩ := uH hh
    obtain ⟨j, hj⟩ : ∃ j : Nat, x - bm.addr = (j : Int) := ⟨(x - bm.addr).toNat, by omega⟩
    have HEQ := ak (show relL b (l.take (k + 1)) = (⟨bm.addr, bm.aff, bm.slots.set j 0, bm.free ++ [(j : Int)], bm.attrs⟩, oo ++ [x]) by
     rw [HSU.out]
     unfold relF
     rw [if_pos hh]
     show (_, _) = (_, _)
     rw [hj]
     rfl)
    have hjm : x % 64 = (j : Int) := by unfold bN at ph; omega
    have hjt : x.tmod 64 = (j : Int) := by rw [Int.tmod_eq_emod_of_nonneg jg.1]; exact hjm
    have m7 : j < 64 := by omega
    have HJ := ak (show j < bm.slots.length by rw [HLM.out]; exact m7)
    have pj : ((j : Int) < (bm.slots.length : Int)) = True := eq_true (by have := HJ.out; omega)
    have wo : gX ≠ gs := fun e_ => (aI.out.ne_row aZ.out (by decide)) (by rw [e_]; rfl)
    have Ef : gs ≠ gX := fun e_ => wo e_.symm
    have HGS := ak (show gs < W.heap.size from Kd.R_lt aZ.out gs rfl)
    obtain ⟨fr, hfr⟩ : ∃ fr, fr = bm.free ++ [(j : Int)] := ⟨_, rfl⟩
    obtain ⟨o1, fh⟩ : ∃ o1, o1 = oo ++ [x] := ⟨_, rfl⟩
    rw [← hfr, ← fh] at HEQ
    have HFR := ak hfr
    have kk := ak fh
    clear hh S1 S0 ph hj hfr fh
    go_wp2_with (first
     | ((with_reducible refine av (N := 21) rfl ?_); refine ay rfl 62 (.tmp 2) rfl gX rfl _ _ _ aI.out Try.underlying62 rfl 5 (by kernel_rfl) rfl ?_)
     | (go_at_call 62; refine (HOF.out _ _ _ _ _ _ _ (jZ.of HMM.out aZ.out bl.out bL.out)).mono ?_; rintro e W1 ⟨rfl, I⟩; rw [HH.out]; have ah := mv I aI; have bd := mv I aZ; have bg := mv I bl; have bG := mv I bL; have b7 := mv I bx; have bR := mv I bA; have iP := ak (Nat.le_trans ik.out I.size); have aj := ak (ae.out.trans (I.mono ae.out.size)); clear I aI aZ bl bL bx bA ik ae)
     | (refine ax (some 9) rfl rfl 76 rfl [.string ⟨#[]⟩, .string ⟨#[]⟩] (fun _ => by kernel_rfl) ?_; intro gV W2 J aa I; have cG := ge aj J; have ep := ne ah J; have j7 := ne bR J; have au := mv I ah; have bF := mv I bd; have bM := mv I bg; have cw := ak (Kd.R_mono (ok' := fun k_ => k_ ≠ gV) (Kd.R_below (Kd.R_bound bG.out) I) (fun k_ bV e_ => by have h_ := bV.2.2.1; omega)); have ct := mv I b7; have b4 := mv I bR; have cr := ak (Nat.le_trans iP.out I.size); have aw := mv I aj; have dF := ak (aa); clear J aa I ah bd bg bG b7 bR iP aj)
     | (refine aN rfl 76 (.tmp 9) (.tmp 24) rfl gV [.string (jd bm x).f0, .string (jd bm x).f1] rfl rfl 76 _ dF.out 2 (by kernel_rfl) rfl rfl (ia (jd bm x)) ?_; intro W3 aa J; have aA := gx au dF J; have b6 := gr bF dF J; have cg := gr bM dF J; have dq := ak (Kd.R_mono (ok' := fun _ => True) (Kd.R_grown cw.out J (fun k_ bV e_ => bV (Option.some.inj e_))) (fun _ _ => trivial)); have eN := gr ct dF J; have bQ := gx b4 dF J; have cE := ak (Nat.le_trans cr.out J.size); have aD := gb aw cG J; have l8 := ak (aa); have j5 := aA.out.cell 2 _ rfl; have oF := aA.out.cell 3 _ rfl; have kJ := (ly b6.out j HJ.out).1; have tu := (ly b6.out j HJ.out).2; clear aa J au bF bM cw ct b4 cr aw dF)
     | ((with_reducible refine cC (b := .append) (xs := #[.tmp 33, .tmp 37]) rfl ?_); at_builtin; generalize bW : W3.setCell ⟨gs, j, none⟩ (.int .i64 0) = W4; have mU : W3.heap.size = W4.heap.size := (by rw [← bW]; simp [World.setCell]); have J : W3.grownBy W4 (some gs) := (by rw [← bW]; exact (m0 b6.out j HJ.out 0).2); have aV := ak (aA.out.grown J (aA.out.ne_row b6.out (by decide))); have cP := ak ((m0 b6.out j HJ.out 0).1); have cd := ak (DJ cg.out J (fun q_ eC e_ => HSP.out (by rw [eC, e_]))); have dw := ak (Kd.R_over dq.out b6.out (by decide) J); have kP := ak (Kd.R_over eN.out b6.out (by decide) J); have bb := ak (bQ.out.grown J (bQ.out.ne_row b6.out (by decide))); have b5 := ak (Nat.le_trans cE.out J.size); have aW := ak (aD.out.grown J aD.out.size (by intro k hk; cases hk; exact Nat.le_trans tS.out (Kd.R_base b6.out gs rfl))); rw [bW] at cP; clear bW J aA b6 cg dq eN bQ cE aD j5 oF kJ tu; have zL := ak (show bm.slots.length = (bm.slots.set j 0).length by rw [List.length_set]); have QB := ak (show gs < W4.heap.size from Kd.R_lt cP.out gs rfl); refine Kd.R_append (Kd.int .i64) (w0 := W4) b1 rfl (.tmp 33) (.tmp 37) 31 3 (.int .i64 0) 8 rfl Try.underlying31 Bq rfl (by decide) (by omega) _ bm.free (j : Int) [.int .i64 (j : Int)] (fun _ => True) (fun _ => False) rfl (congrArg (fun n_ => Value.slice (some ⟨n_, 0, none⟩) 1 1) mU) rfl (fun _ hk => hk.elim) (fun _ _ => trivial) cd.out (Below.refl _ _) b5.out (by have := HFLN.out; omega) ?_; intro v_ W5 aU I J fu; rw [← HFR.out] at aU; have Qw := ak (show v_.ownBlock ≠ some gs from fun e_ => by rcases fu with h_ | ⟨b_, h_, Ds⟩; (· exact HSP.out (h_.symm.trans e_)); (· have Vv := Option.some.inj (h_.symm.trans e_); have Ix := QB.out; omega)); have a9 := ak (aV.out.grown J (aV.out.ne_row cd.out (by decide))); have cY := ak (DJ cP.out J (fun q_ eC e_ => HSP.out (e_.symm.trans eC.symm))); have b8 := ak (aU); have cQ := ak (Kd.R_over dw.out cd.out (by decide) J); have wD := ak (Kd.R_over kP.out cd.out (by decide) J); have bu := ak (bb.out.grown J (bb.out.ne_row cd.out (by decide))); have du := ak (Nat.le_trans b5.out J.size); have bf := ak (aW.out.trans (I.mono cn.out)); obtain ⟨AF, cF, rfl⟩ := Kd.R_slice aU; have N8 := a9.out.cell 3 _ rfl; have N7 := a9.out.frozen 3; clear aU I J fu mU aV cP cd dw kP bb b5 aW)
     | ((with_reducible refine cC (b := .append) (xs := #[.tmp 40, .tmp 42]) rfl ?_); at_builtin; generalize bW : W5.setCell ⟨gX, 3, none⟩ (.slice AF fr.length cF) = W6; have mU : W5.heap.size = W6.heap.size := (by rw [← bW]; simp [World.setCell]); have J : W5.grownBy W6 (some gX) := (by rw [← bW]; exact bP _ _ _ _); have bj := ak (a9.out.set 3 (.slice AF fr.length cF)); have dm := gr cY a9 J; have cI := gr b8 a9 J; have dU := gr cQ a9 J; have la := gr wD a9 J; have bT := gm bu aG J; have cN := ak (Nat.le_trans du.out J.size); have bD := gb bf bS J; rw [bW] at bj; clear bW J a9 cY b8 cQ wD bu du bf N8 N7; refine Kd.R_append (Kd.int .u32) (w0 := w) w.heap.size rfl (.tmp 40) (.tmp 42) 77 46 (.int .u32 0) 4 rfl Try.underlying77 iM rfl (by decide) (by omega) _ oo x [.int .u32 x] (fun _ => True) (fun _ => False) rfl (congrArg (fun n_ => Value.slice (some ⟨n_, 0, none⟩) 1 1) mU) rfl (fun _ hk => hk.elim) (fun _ _ => trivial) la.out bD.out bD.out.size (by have := HOL.out; omega) ?_; intro v_ W7 aU I J fu; rw [← kk.out] at aU; have df := ak (bj.out.grown J (bj.out.ne_row la.out (by decide))); have fQ := ak (Kd.R_over dm.out la.out (by decide) J); have eS := ak (Kd.R_over cI.out la.out (by decide) J); have jJ := ak (Kd.R_over dU.out la.out (by decide) J); have k9 := ak (aU); have dI := ak (bT.out.grown J (bT.out.ne_row la.out (by decide))); have iO := ak (Nat.le_trans cN.out J.size); have dR := ak (I); obtain ⟨AO, cO, rfl⟩ := Kd.R_slice aU; clear aU I J fu mU bj dm cI dU la bT cN bD))
    go_roundw
    case rel => exact ⟨k + 1, AF, cF, by omega, by go_num, ⟨by rw [HEQ.out]; exact Qw.out⟩, ⟨by rw [HEQ.out, ← HAD.out, ← HAF.out, HLN.out]; exact df.out⟩, ⟨by rw [HEQ.out, HLN.out]; exact fQ.out⟩, ⟨by rw [HEQ.out]; exact eS.out⟩, jJ, ⟨by rw [HEQ.out]; exact k9.out⟩, dI, iO, dR⟩
    case measure => simp [intOf]; omega
  ·obtain rfl : k = l.length := by omega
   have hkb : decide ((l.length : Int) < (l.length : Int)) = false := by simp
   rw [List.take_of_length_le (Nat.le_refl l.length)] at hro aI aZ bl bx
   obtain ⟨bn, hbn⟩ : ∃ bn, bn = (relL b l).1 := ⟨_, rfl⟩
   obtain ⟨on, hon⟩ : ∃ on, on = (relL b l).2 := ⟨_, rfl⟩
   have HBN := ak hbn
   have HON := ak hon
   rw [← hbn] at aI aZ bl
   rw [← hon] at bx
   obtain ⟨Ao, co, rfl⟩ := Kd.R_slice bx.out
   have HMA := ak (show M = bn.attrs.map vc by rw [hbn, hro.attrs]; exact xP.out)
   have H5 := ak (show M.length = bn.attrs.length by rw [HMA.out, List.length_map])
   have had : b.addr = bn.addr := by rw [hbn, hro.addr]
   have haf : b.aff = bn.aff := by rw [hbn, hro.aff]
   have hln : b.slots.length = bn.slots.length := by rw [hbn, hro.l64, HL.out]
   have PN := ak (show DropInv bn bn.attrs.length bn from ⟨rfl, Nat.le_refl _, by rw [← H5.out]; exact Bu, by rw [hbn]; exact hro.l64, by rw [hbn]; exact hro.s8, by have := HFL.out; have h_ := hro.fl; rw [← hbn] at h_; omega⟩)
   rw [had, haf, hln] at aI
   rw [hln] at aZ
   obtain ⟨Mn, hMn⟩ : ∃ Mn, Mn = M.length := ⟨_, rfl⟩
   have HMN := ak hMn
   have M7 : Mn ≤ 64 := by omega
   have nI := aI.out.cell 4 _ rfl
   have HXN := ak (show RX W w.heap.size gX bn from ⟨M, _, _, _, HMA.out, aI.out, Kd.R_lower aZ.out cn.out, Kd.R_lower bl.out cn.out, Kd.R_lower bL.out cn.out⟩)
   rw [← hMn] at nI
   clear hbn hon hro had haf hln aI aZ bl bL ik hMn Bu
   go_wp2_with fail
   go_loopw [11] (fun u W => ∃ (z : Int) (k : Nat) (bm : Bk), u = .int .i64 z ∧ z = (k : Int) - 1 ∧ k ≤ 64 ∧ Aside0 (DropInv bn k bm) ∧ Aside0 (RX W w.heap.size gX bm) ∧ Aside0 (Kd.R (Kd.int .u32) 46 W w.heap.size (fun _ => True) (.slice Ao on.length co) on) ∧ Aside0 (aH W gZ dM 62) ∧ Aside0 (Below w.heap.size w W)) (fun u _ => (intOf u + 1).toNat)
   case atStart => exact ⟨_, Mn, bn, rfl, rfl, M7, ⟨by rw [HMN.out, H5.out]; exact PN.out⟩, HXN, bx, bA, ae⟩
   case round =>
    clear HXN bx bA ae PN nI HMN M7
    obtain ⟨z, k, bm, rfl, hz, U1, HDI, aI, bx, bA, ae⟩ := hrel
    obtain ⟨W, rfl⟩ : ∃ W : World, W = wr := ⟨_, rfl⟩
    obtain ⟨M2, vs, vf, va, tf, hx, hs, hf, ha⟩ := aI.out
    obtain ⟨As, cs, rfl, lS, cS⟩ := Kd.R_reads hs
    obtain ⟨Af, cf, rfl⟩ := Kd.R_slice hf
    obtain ⟨Aa, ca, rfl⟩ := Kd.R_slice ha
    have gv := ak hx
    have xA := ak hs
    have kR := ak hf
    have vr := ak ha
    have DT := ak cS
    have zK := ak tf
    have j5 := hx.cell 2 _ rfl
    clear tf hx hs hf ha cS aI
    rcases k with _ | k
    ·obtain rfl : z = -1 := by omega
     have hkb : decide ((0 : Int) ≤ -1) = false := by decide
     clear hz
     have HE := ak (show oU b.attrs.length (relL b l).1 = bm by have h_ := HDI.out.eq; rw [← HBN.out, ← HML.out, H5.out, ← h_]; rfl)
     go_wp2_with (first
      | ((with_reducible refine av (N := 62) rfl ?_); refine ay rfl 62 (.tmp 2) rfl gX rfl _ _ _ gv.out Try.underlying62 rfl 5 (by kernel_rfl) rfl ?_)
      | (refine aN rfl 62 (.tmp 4) (.tmp 62) rfl gZ (dt bm.addr bm.aff (.slice As bm.slots.length cs) (.slice Af bm.free.length cf) (.slice Aa M2.length ca)) rfl rfl 62 _ bA.out 5 (by kernel_rfl) rfl rfl (dO _ _ rfl rfl rfl) ?_; intro W1 aa J; have ah := gn gv aG J; have bd := gr xA bA J; have bg := gr kR bA J; have bG := gr vr bA J; have b7 := gr bx bA J; have bR := ak (aa); have aj := gb ae bO J; clear aa J gv xA kR vr bx bA ae j5))
     refine bodyPost_ret (e8 rfl _ _ gZ 62 _ (0, 0) _ rfl bR.out Try.underlying62 rfl (by kernel_rfl)) rfl ⟨_, _, rfl, ?_, by rw [← HON.out]; exact b7.out, aj.out⟩
     rw [HE.out]
     exact ⟨_, _, _, rfl, bd.out, bg.out, by rw [← zK.out]; exact bG.out⟩
    ·obtain rfl : z = (k : Int) := by omega
     have hkb : decide ((0 : Int) ≤ (k : Int)) = true := by simp
     clear hz
     have hdi := HDI.out
     obtain ⟨c, hc⟩ : ∃ c, c = bm.slots.count ((k + 1 : Nat) : Int) := ⟨_, rfl⟩
     have HCT := ak (fun w h => D9 bm hdi.l64 As cs lS k w h)
     rw [← hc] at HCT
     have HUC := ak (show dN bm.slots k = !decide (c = 0) by rw [hc]; exact CQ _ _)
     have HC := ak (show c ≤ 64 by rw [hc]; have := List.count_le_length (a := ((k + 1 : Nat) : Int)) (l := bm.slots); have h_ := hdi.l64; omega)
     clear hc lS
     by_cases lV : c = 0
     ·have hcb : decide ((c : Int) = 0) = true := by subst lV; rfl
      have HU := ak (show dN bm.slots k = false by rw [HUC.out, lV]; rfl)
      have HDR := ak (fun v w h => Hn bm hdi.l64 hdi.s8 (by have := hdi.fl; omega) (by have := hdi.a64; omega) k hdi.ka v w h)
      have HDN := ak (show DropInv bn k (j6 bm k) from hdi.drop HU.out)
      clear hdi
      go_wp2_with (first
       | (go_at_call 68; refine (HCT.out _ DT.out).mono ?_; rintro e W1 ⟨rfl, I⟩; have ah := mv I gv; have bd := mv I xA; have bg := mv I kR; have bG := mv I vr; have b7 := mv I bx; have bR := mv I bA; have aj := ak (ae.out.trans (I.mono ae.out.size)); clear I gv xA kR vr bx bA ae j5)
       | ((with_reducible refine av (N := 59) rfl ?_); refine ay rfl 62 (.tmp 2) rfl gX rfl _ _ _ ah.out Try.underlying62 rfl 5 (by kernel_rfl) rfl ?_)
       | (go_at_call 108; refine (HDR.out _ _ ⟨M2, As, cs, Af, cf, Aa, ca, rfl, jZ.of zK.out bd.out bg.out bG.out⟩).mono ?_; rintro e W2 ⟨v9, rfl, fF, I⟩; have HSZ := ak aj.out.size; obtain ⟨nb, hnb⟩ : ∃ nb, nb = j6 bm k := ⟨_, rfl⟩; rw [← hnb] at fF; have HNB := ak hnb; obtain ⟨uk, qN, qO, rfl, gg, fm, ez⟩ := fF; obtain ⟨A7, c7, rfl⟩ := Kd.R_slice gg; obtain ⟨A8, c8, rfl⟩ := Kd.R_slice fm; obtain ⟨NM, hNM⟩ : ∃ NM, NM = nb.attrs.map vc := ⟨_, rfl⟩; rw [← hNM] at ez; have HNM := ak hNM; obtain ⟨A9, c9, rfl⟩ := Kd.R_slice ez; have au := mv I ah; have bF := ak (Kd.R_lower gg HSZ.out); have bM := ak (Kd.R_lower fm HSZ.out); have cw := ak (Kd.R_lower ez HSZ.out); have ct := mv I b7; have b4 := mv I bR; have aw := mv I aj; clear hNM hnb gg fm ez I ah bd bg bG b7 bR aj)
       | (refine aN rfl 62 (.tmp 2) (.tmp 61) rfl gX (dt nb.addr nb.aff (.slice A7 nb.slots.length c7) (.slice A8 nb.free.length c8) (.slice A9 NM.length c9)) rfl rfl 62 _ au.out 5 (by kernel_rfl) rfl rfl (dO _ _ rfl rfl rfl) ?_; intro W3 aa J; have aA := ak (aa); have b6 := gr bF au J; have cg := gr bM au J; have dq := gr cw au J; have eN := gr ct au J; have bQ := gm b4 aG J; have aD := gb aw bS J; clear aa J au bF bM cw ct b4 aw))
      go_roundw
      case rel => exact ⟨_, k, nb, rfl, rfl, by omega, ⟨by rw [HNB.out]; exact HDN.out⟩, ⟨NM, _, _, _, HNM.out, aA.out, b6.out, cg.out, dq.out⟩, eN, bQ, aD⟩
      case measure => simp [intOf] <;> omega
     ·have hcb : decide ((c : Int) = 0) = false := by simp; omega
      have HDN := ak (show DropInv bn k bm from hdi.keep (by rw [HUC.out]; simp [lV]))
      clear hdi
      go_wp2_with (first
       | (go_at_call 68; refine (HCT.out _ DT.out).mono ?_; rintro e W1 ⟨rfl, I⟩; have ah := mv I gv; have bd := mv I xA; have bg := mv I kR; have bG := mv I vr; have b7 := mv I bx; have bR := mv I bA; have aj := ak (ae.out.trans (I.mono ae.out.size)); clear I gv xA kR vr bx bA ae j5))
      go_roundw
      case rel => exact ⟨_, k, bm, rfl, rfl, by omega, HDN, ⟨M2, _, _, _, zK.out, ah.out, bd.out, bg.out, bG.out⟩, b7, bR, aj⟩
      case measure => simp [intOf] <;> omega
end Go.Proofs.Ytemhalnhbgkbcaa.V
end

