/- The law ViewOf for every input: texts of ours, put together (part 10 of 17). No further condition. -/
import Derived.Test.YtndddnglapkplaaGreatDoorCViewOfx2
import Derived.Test.YtndddnglapkplaaGreatDoorCViewOfx5
import Derived.Test.YtndddnglapkplaaGreatDoorCViewOfx8
import Derived.Outline
import Derived.ArgAppend
import Derived.Lib.SlBytesConst
import Derived.Test.YtndddnglapkplaaGreatDoorCViewOfx3
import Derived.Test.YtndddnglapkplaaGreatDoorCViewOfw0
import Derived.Test.YtndddnglapkplaaGreatDoorCViewOfx6
import Derived.Test.YtndddnglapkplaaGreatDoorCViewOfx7
set_option linter.unusedVariables false
set_option linter.unusedSimpArgs false
set_option linter.unusedSectionVars false
open Go.RowKit Go.Proofs.YtndddnglapkplaaGreatDoorW.PrintWords Go.Proofs.YtndddnglapkplaaGreatDoorW.PrintLast Go.Proofs.YtndddnglapkplaaGreatDoorW.PrintMore Go.Proofs.YtndddnglapkplaaGreatDoor.Z
namespace Go.Proofs.YtndddnglapkplaaGreatDoor.V
section
set_option maxRecDepth 100000 in
theorem Kp {ops : Array Oper} {rest : List Oper} {o : Oper} {a : Act} {Q : Exit → Act → World → Prop} {W : World} (hgd : o.guard = none) (s x : Operand)
  (ho : o.op = .call { callee := .builtin .append, args := #[s, x], argTypes := #[61, 61] }) (g : Nat) (hs : a.eval s = .slice (some ⟨g, 0, none⟩) 1 1) (hcell : W.cell? ⟨g, 0, none⟩ = some (.int .u8 66))
  (A : Option Addr) (c : Nat) (ys : List Int) (hx : a.eval x = .slice A ys.length c) (hC : Kd.C (Kd.int .u8) W A ys.length ys) (hy : 0 < ys.length) (uS : ys.length ≤ 1000)
  (h : ∀ v1 w1, Kd.R (Kd.int .u8) 5 w1 W.heap.size (fun _ => True) v1 ([66] ++ ys) → W.grownBy w1 none → wpList Tryz.prog ops Q rest (a.put o.dst v1) w1) : wpList Tryz.prog ops Q (o :: rest) a W := by
 obtain ⟨i, hi, hz⟩ := Option.map_eq_some_iff.1 kA
 simp only [Prod.mk.injEq] at hz
 rcases A with _ | ad
 ·obtain ⟨ad, h, _⟩ := hC.2.2 hy
  cases h
 ·obtain ⟨news, hnr, hnc⟩ := gu.inner_ hC
  have hnl : news.length = ys.length * 1 := hnr.1
  have hone : ∀ u ∈ news, u.oneCell' = true := by
   intro u hu
   obtain ⟨q, hq, rfl⟩ := List.mem_iff_getElem.1 hu
   have := hnr.2 q _ (List.getElem?_eq_getElem (show q < ys.length by omega))
   have e : ((news.drop (q * 1)).take 1) = [Value.int .u8 (ys[q]'(by omega))] := this
   rw [Nat.mul_one, List.drop_eq_getElem_cons hq, List.take_succ_cons, List.take_zero] at e
   injection e with e _
   rw [e]
   rfl
  refine wpList_append_arg W hgd s x 61 ho 5 i (.int .u8 0) 1 1 Tryz.underlying61 hi hz.1 hz.2.1 hz.2.2 rfl (by decide) g 0 1 1 [.int .u8 66] hs rfl (fun j u hj => ?_) ad ys.length c news hx hnl hnc hone (fun hle => by omega) (by simp only [maxLen]; omega) (by omega) (fun hle => by omega) (fun _ v' w' hown hg => h v' w' ⟨fun _ _ => trivial, [.int .u8 66] ++ news, ?_, ?_⟩ hg)
  ·rcases j with _ | j
   ·obtain rfl := Option.some.inj hj
    exact hcell
   ·simp at hj
  ·have e : ([(66 : Int)] ++ ys).length = 1 + ys.length := by rw [List.length_append]; rfl
   rw [e]
   exact hown
  ·exact Kd.reps_append (Kd.reps_scalar (enc := Value.int .u8) [66]) hnr
theorem Cd (s : ByteArray) (hs : s.size ≤ 64) : ew.f s = some (im s) := by
 unfold ew.f
 rw [Option.bind_some, if_pos (by simp; omega)]
 have : ((s.size : Int)) % 256 = (s.size : Int) := by omega
 simp [im, this]
theorem o4 (n i k : Nat) (xs : List Int) (hn : n < 18446744073709551616) (hi : i < xs.length) (Ui : i < 100) :
  av.l0 (k + 1) (n : Int) xs (i : Int) = av.l0 k ((n / 256 : Nat) : Int) (xs.set i ((n % 256 : Nat) : Int)) ((i : Int) - 1) := by
 rw [av.l0, if_pos (by omega), if_pos (by omega), if_pos (by omega), bB ((i : Int) - 1) (by omega) (by omega)]
 have e1 : Int.tdiv (n : Int) 256 = ((n / 256 : Nat) : Int) := by
  rw [Int.tdiv_eq_ediv_of_nonneg (by omega)]; omega
 have e2 : Int.tmod (n : Int) 256 = ((n % 256 : Nat) : Int) := by
  rw [Int.tmod_eq_emod_of_nonneg (by omega)]; omega
 rw [e1, e2, jY _ (by omega), Int.toNat_natCast]
 congr 2
 omega
theorem Ia (n : Nat) (hn : n < 4294967296) : av.f 20 (n : Int) 4 = some (lR n) := by
 unfold av.f
 rw [if_neg (by decide), show decide ((4 : Int) > 8) = false from rfl, av.j0, if_neg (by decide), if_pos (by decide), if_pos (by decide), show wrap64 ((4 : Int) - 1) = ((3 : Nat) : Int) by unfold wrap64; omega]
 rw [o4 n 3 18 _ (by omega) (by decide) (by omega), show ((3 : Nat) : Int) - 1 = ((2 : Nat) : Int) by omega, o4 _ 2 17 _ (by omega) (by simp) (by omega), show ((2 : Nat) : Int) - 1 = ((1 : Nat) : Int) by omega, o4 _ 1 16 _ (by omega) (by simp) (by omega), show ((1 : Nat) : Int) - 1 = ((0 : Nat) : Int) by omega, o4 _ 0 15 _ (by omega) (by simp) (by omega), av.l0, if_neg (by decide)]
 have h3 : n / 256 / 256 / 256 = n / 16777216 := by omega
 have h2 : n / 256 / 256 = n / 65536 := by omega
 rw [h3, h2]
 rfl
set_option maxHeartbeats 8000000 in
set_option maxRecDepth 100000 in
theorem Ny (b : Bk) (hk : BkOk b) (hp : RightP b) (hsl : b.slots.length = 64) (As Af Aa : Option Addr) (cs cf ca : Nat) (w : World)
  (h1 : Kd.C (Kd.int .i64) w As b.slots.length b.slots) (h2 : Kd.C (Kd.int .i64) w Af b.free.length b.free) (h3 : Kd.C iZ w Aa (b.attrs.map vc).length (b.attrs.map vc)) :
  Calls Tryz.prog 69 #[.agg #[.int .u32 b.addr, .string b.aff, .slice As b.slots.length cs, .slice Af b.free.length cf, .slice Aa (b.attrs.map vc).length ca]] w fun e w' => e = .returned (.string (strOfNums (nO b))) ∧ Below w.heap.size w w' := by
 have hsz := xd hp.owner
 obtain ⟨n, hn⟩ : ∃ n : Nat, b.addr = (n : Int) := ⟨b.addr.toNat, by have := hk.a0; omega⟩
 have hnl : n < 4294967296 := by have := hk.a1; omega
 have hfl := hp.free_len hsl
 have hal := hp.na
 have HP := ak hp
 have HK := ak hk
 have HSL := ak hsl
 obtain ⟨M, hM⟩ : ∃ M, M = b.attrs.map vc := ⟨_, rfl⟩
 have HM := ak hM
 have hml : M.length = b.attrs.length := by rw [hM, List.length_map]
 have HML := ak hml
 rw [← hM] at h3 ⊢
 have C1 := ak h1
 have C2 := ak h2
 have C3 := ak h3
 obtain ⟨B4, P5⟩ : ∃ B4 : List Int, B4 = lR n := ⟨_, rfl⟩
 obtain ⟨L1, BE⟩ : ∃ L1 : List Int, L1 = [66] ++ B4 := ⟨_, rfl⟩
 obtain ⟨TA, hTA⟩ : ∃ TA : List Int, TA = im b.aff := ⟨_, rfl⟩
 obtain ⟨L2, P4⟩ : ∃ L2 : List Int, L2 = L1 ++ TA := ⟨_, rfl⟩
 obtain ⟨L3, UD⟩ : ∃ L3 : List Int, L3 = jC b 0 := ⟨_, rfl⟩
 have H1 := ak BE
 have H2 := ak P4
 have H3 := ak UD
 have H30 := ak (show L3 = L2 ++ [(M.length : Int)] by
  rw [UD, P4, BE, hTA, P5, hml]
  simp [jC, hn])
 have HPU := ak (show av.f 20 b.addr 4 = some B4 by rw [hn, P5]; exact Ia n hnl)
 have HTX := ak (show ew.f b.aff = some TA by rw [hTA]; exact Cd _ hsz)
 have l1 : B4.length = 4 := by rw [P5]; rfl
 have l2 : L1.length = 5 := by rw [BE, List.length_append, l1]; rfl
 have l3 : TA.length ≤ 65 := by rw [hTA, k5]; omega
 have l4 : L2.length ≤ 70 := by rw [P4, List.length_append]; omega
 have YT := ak l1
 have L2A := ak l2
 have L3A := ak l3
 have L4A := ak l4
 have Yl : 0 ≤ b.addr := hk.a0
 have Yk : b.addr < 4294967296 := hk.a1
 have HFL := ak hfl
 have HAL := ak hal
 have aT1 : M.length ≤ 64 := by omega
 have aR2 : b.slots.length ≤ 64 := by omega
 clear hml h1 h2 h3 hM P5 BE hTA P4 UD l1 l2 l3 l4 hn hnl hsz hp hk hsl
 have kc := fun (w : World) (C : Array Value) (n c : Nat) => Lib.run_convert_bytes_const (P := Tryz.prog) w 61 5 C n c Tryz.underlying61 Tryz.underlying5
 go_enter Tryz.func69, Tryz.ntmps69
 go_wp2_with (first
  | (refine cH rfl 49 (.tmp 0) rfl _ rfl ?_; intro g W1 hg hbx aw; have HX := ak hbx; have HB := ak aw; have en := (hbx.alloc (.cells #[.int .u8 66] 5 (1, 2))).cell 0 _ rfl; clear hbx aw)
  | (go_at_call 63; refine (av.calls 20 _ _ _ _ HPU.out).mono ?_; rintro e W4 ⟨v4, rfl, pq, km⟩; have Na := ak (show W4.cell? ⟨W1.heap.size, 0, none⟩ = some (.int .u8 66) by have hq : W4.heap[W1.heap.size]? = some (.cells #[.int .u8 66] 5 (1, 2)) := (by rw [km.block _ (by show _ < (W1.heap.push _).size; simp)]; exact heap_alloc_new W1 _); simp [World.cell?, hq]); have iQ := ak ((cO HB.out (.cells #[.int .u8 66] 5 (1, 2))).trans (km.mono (cO HB.out (.cells #[.int .u8 66] 5 (1, 2))).size)); have nT := ak ((HX.out.alloc (.cells #[.int .u8 66] 5 (1, 2))).below km); obtain ⟨A4, c4, hq4, Z1, YF⟩ := Kd.R_reads pq; subst hq4; have my := ak YF; clear pq km HB en YF)
  | ((with_reducible refine cx (b := .append) (xs := #[.tmp 11, .tmp 15]) rfl ?_); at_builtin; refine Kp rfl (.tmp 11) (.tmp 15) rfl W1.heap.size rfl Na.out A4 c4 B4 rfl my.out (by have := YT.out; omega) (by have := YT.out; omega) ?_; intro v5 w5 zG dH; rw [← H1.out] at zG; have nJ := ak (nT.out.grown dH (by simp)); have Jd := ak (Kd.R_lower zG iQ.out.size); have lK := ak (iQ.out.grown dH iQ.out.size (by simp)); obtain ⟨A5, c5, rfl⟩ := Kd.R_slice zG; have iv := nJ.out.cell 1 _ rfl; clear zG dH nT Na my iQ)
  | (go_at_call 103; refine (ew.calls _ _ _ HTX.out).mono ?_; rintro e W6 ⟨v6, rfl, Mq, mj⟩; have wU := ak (Kd.R_below Jd.out mj); have nM := ak (lK.out.trans (mj.mono lK.out.size)); have sI := ak (nJ.out.below mj); obtain ⟨A6, c6, Mp, Uy, DJ⟩ := Kd.R_reads Mq; subst Mp; have Nb := ak DJ; clear Mq mj lK nJ iv DJ)
  | ((with_reducible refine cx (b := .append) (xs := #[.tmp 17, .tmp 20]) rfl ?_); at_builtin; refine Kd.R_append_row (Value.int .u8) (0 : Int) (w0 := w) w.heap.size rfl (.tmp 17) (.tmp 20) 61 5 (.int .u8 0) 1 rfl Tryz.underlying61 kA rfl (by decide) _ L1 TA A6 TA.length c6 (fun _ => True) rfl rfl (fun _ _ => trivial) wU.out Nb.out nM.out nM.out.size (by have := L2A.out; have := L3A.out; omega) ?_; intro v7 w7 qF ov dq Ak; rw [← H2.out] at qF; have uj := ak (sI.out.grown dq (sI.out.ne_row wU.out (by decide))); have D0 := ak qF; have mU := ak ov; obtain ⟨A7, c7, rfl⟩ := Kd.R_slice qF; have PR := uj.out.cell 4 _ rfl; clear qF ov dq Ak sI wU Nb nM)
  | ((with_reducible refine cx (b := .append) (xs := #[.tmp 22, .tmp 27]) rfl ?_); at_builtin; refine Kd.R_append (Kd.int .u8) (w0 := w) w.heap.size rfl (.tmp 22) (.tmp 27) 61 5 (.int .u8 0) 1 rfl Tryz.underlying61 kA rfl (by decide) (by omega) _ L2 (M.length : Int) [.int .u8 (M.length : Int)] (fun _ => True) (fun _ => False) rfl rfl rfl (fun _ hk => hk.elim) (fun _ _ => trivial) D0.out mU.out mU.out.size (by have := L4A.out; omega) ?_; intro v8 w8 gR fU dG lW; rw [← H30.out] at gR; have mu := ak (uj.out.grown dG (uj.out.ne_row D0.out (by decide))); have Jc := ak gR; have jN := ak fU; obtain ⟨A8, c8, rfl⟩ := Kd.R_slice gR; have Z3 := mu.out.cell 4 _ rfl; clear gR fU dG lW uj D0 mU PR))
 have sj := ak (show Kd.R (Kd.int .u8) 5 _ w.heap.size (fun _ => True) (.slice A8 L3.length c8) (jC b 0) by rw [← H3.out]; exact Jc.out)
 clear Jc hg Z3
 go_loopw [3, 5, 32] (fun s _ i W => ∃ k : Nat, k ≤ M.length ∧ i = .int .i64 k ∧ Aside0 (Kd.R (Kd.int .u8) 5 W w.heap.size (fun _ => True) s (jC b k)) ∧ Aside0 (bC W g [.int .u32 b.addr, .string b.aff, .slice As b.slots.length cs, .slice Af b.free.length cf, .slice Aa M.length ca] 49) ∧ Aside0 (Below w.heap.size w W)) (fun _ _ i _ => M.length - (intOf i).toNat)
 case atStart => exact ⟨0, by omega, rfl, sj, mu, jN⟩
 case round =>
  clear sj mu jN
  obtain ⟨k, hk, rfl, HO, HX, HB⟩ := hrel
  obtain ⟨W, rfl⟩ : ∃ W : World, W = wr := ⟨_, rfl⟩
  by_cases hkn : k < M.length
  ·have hkb : decide ((k : Int) < (M.length : Int)) = true := by simp; omega
   obtain ⟨ad, eA, j7, eD⟩ := wQ (Kd.C_below C3.out HB.out) k (by omega) (by omega)
   cases eA
   rw [Int.toNat_natCast] at j7 eD
   have p1 : ((k : Int) < (M.length : Int)) = True := eq_true (by omega)
   have hka : k < b.attrs.length := by have := HML.out; omega
   obtain ⟨a, ha⟩ : ∃ a : At, nI b.attrs k = a := ⟨_, rfl⟩
   have ha' : aY M (k : Int) = vc a := by
    rw [← ha, HM.out]
    show aY (b.attrs.map vc) (k : Int) = vc (mf b.attrs (k : Int))
    simp [aY, mf, List.getD, hka]
   rw [ha'] at j7 eD
   have hma := HP.out.may k hka
   rw [ha] at hma
   unfold iD at hma
   rw [Bool.and_eq_true] at hma
   have mi := (fq hma.1).2
   have rV := (fq hma.2).2
   have hpl := Bm HP.out k (by omega)
   obtain ⟨P0, UA⟩ : ∃ P0, P0 = jC b k := ⟨_, rfl⟩
   obtain ⟨T0, Mu⟩ : ∃ T0, T0 = im a.f0 := ⟨_, rfl⟩
   obtain ⟨T1, PX⟩ : ∃ T1, T1 = im a.f1 := ⟨_, rfl⟩
   obtain ⟨P1, PZ⟩ : ∃ P1 : List Int, P1 = P0 ++ T0 := ⟨_, rfl⟩
   have PY := zD b k hka
   rw [ha, ← UA, ← Mu, ← PZ, ← PX] at PY
   obtain ⟨P2, hPP⟩ : ∃ P2 : List Int, P2 = jC b (k + 1) := ⟨_, rfl⟩
   rw [← hPP] at PY
   rw [← UA] at HO hpl
   have HF0 := ak (show ew.f (vc a).f0 = some T0 by rw [Mu]; exact Cd _ mi)
   have wV := ak (show ew.f (vc a).f1 = some T1 by rw [PX]; exact Cd _ rV)
   have lp0 := ak (show P0.length ≤ 71 + 130 * 64 by have := HAL.out; omega)
   have lt0 := ak (show T0.length ≤ 65 by rw [Mu, k5]; omega)
   have lt1 := ak (show T1.length ≤ 65 by rw [PX, k5]; omega)
   have lp1 := ak (show P1.length ≤ 136 + 130 * 64 by have := HAL.out; rw [PZ, List.length_append, Mu, k5]; omega)
   have E1 := ak PZ
   have E2 := ak PY
   have E3 := ak hPP
   clear ha ha' hma mi rV hpl UA Mu PX PZ PY hPP
   obtain ⟨Ao, co, rfl⟩ := Kd.R_slice HO.out
   go_wp2_with (first
    | (refine aE (some 5) rfl rfl 78 rfl [.string ⟨#[]⟩, .string ⟨#[]⟩] (fun _ => by kernel_rfl) ?_; intro ga W3 hga ep tZ)
    | (refine ay rfl 78 (.tmp 5) (.tmp 35) rfl ga [.string (vc a).f0, .string (vc a).f1] rfl rfl 78 _ ep 2 (by kernel_rfl) rfl rfl (by intro u hu; simp at hu; rcases hu with rfl | rfl <;> rfl) ?_; intro W4 iQ yp; have pO := ak iQ; have hbW : Below W.heap.size W W4 := tZ.grown yp tZ.size (fun q hq => by cases hq; exact hga); have lK := ak (dj HB.out hbW); have nJ := ak (HX.out.below hbW); have Jd := ak (Kd.R_below HO.out hbW); have iM := pO.out.cell 0 _ rfl; clear ep iQ hga tZ yp hbW j7 eD HO HX HB)
    | (go_at_call 103; refine (ew.calls _ _ _ HF0.out).mono ?_; rintro e W6 ⟨v6, rfl, Mq, mj⟩; have wU := ak (Kd.R_below Jd.out mj); have nM := ak (lK.out.trans (mj.mono lK.out.size)); have sI := ak (nJ.out.below mj); have B0 := ak (pO.out.below mj); obtain ⟨A6, c6, Mp, Uy, DJ⟩ := Kd.R_reads Mq; subst Mp; have Nb := ak DJ; clear Mq mj lK nJ Jd pO iM DJ)
    | ((with_reducible refine cx (b := .append) (xs := #[.tmp 36, .tmp 39]) rfl ?_); at_builtin; refine Kd.R_append_row (Value.int .u8) (0 : Int) (w0 := w) w.heap.size rfl (.tmp 36) (.tmp 39) 61 5 (.int .u8 0) 1 rfl Tryz.underlying61 kA rfl (by decide) _ P0 T0 A6 T0.length c6 (fun _ => True) rfl rfl (fun _ _ => trivial) wU.out Nb.out nM.out nM.out.size (by have := lp0.out; have := lt0.out; omega) ?_; intro v7 w7 qF ov dq Ak; rw [← E1.out] at qF; have uj := ak (sI.out.grown dq (sI.out.ne_row wU.out (by decide))); have wW := ak (B0.out.grown dq (B0.out.ne_row wU.out (by decide))); have D0 := ak qF; have mU := ak ov; obtain ⟨A7, c7, rfl⟩ := Kd.R_slice qF; have lu := wW.out.cell 1 _ rfl; clear qF ov dq Ak sI wU Nb nM B0)
    | (go_at_call 103; refine (ew.calls _ _ _ wV.out).mono ?_; rintro e W8 ⟨v8, rfl, gR, fU⟩; have Jc := ak (Kd.R_below D0.out fU); have jN := ak (mU.out.trans (fU.mono mU.out.size)); have mu := ak (uj.out.below fU); obtain ⟨A8, c8, hq8, aT4, YE⟩ := Kd.R_reads gR; subst hq8; have Y5 := ak YE; clear gR fU mU uj D0 wW lu YE)
    | ((with_reducible refine cx (b := .append) (xs := #[.tmp 41, .tmp 44]) rfl ?_); at_builtin; refine Kd.R_append_row (Value.int .u8) (0 : Int) (w0 := w) w.heap.size rfl (.tmp 41) (.tmp 44) 61 5 (.int .u8 0) 1 rfl Tryz.underlying61 kA rfl (by decide) _ P1 T1 A8 T1.length c8 (fun _ => True) rfl rfl (fun _ _ => trivial) Jc.out Y5.out jN.out jN.out.size (by have := lp1.out; have := lt1.out; omega) ?_; intro v9 w9 wq Yy cI Z8; rw [← E2.out] at wq; have Qs := ak (mu.out.grown cI (mu.out.ne_row Jc.out (by decide))); have QD := ak wq; have qE := ak Yy; clear wq Yy cI Z8 mu Jc Y5 jN))
   go_roundw
   case rel => exact ⟨k + 1, by omega, by go_num, ⟨by rw [← E3.out]; exact QD.out⟩, Qs, qE⟩
   case measure => simp [intOf]; omega
  ·obtain rfl : k = M.length := by omega
   have hkb : decide ((M.length : Int) < (M.length : Int)) = false := by simp
   have jc := HX.out.cell 2 _ rfl
   have e0 : jC b M.length = jC b b.attrs.length ++ b.slots.take 0 := by rw [HML.out, List.take_zero, List.append_nil]
   rw [e0] at HO
   clear e0
   obtain ⟨Ao, co, rfl⟩ := Kd.R_slice HO.out
   have HZ := ak HO.out
   have hPL := Bm HP.out b.attrs.length (Nat.le_refl _)
   obtain ⟨PA, hPA⟩ : ∃ PA : List Int, PA = jC b b.attrs.length := ⟨_, rfl⟩
   have HPA := ak hPA
   have HPL := ak (show PA.length ≤ 71 + 130 * 64 by have := HAL.out; rw [hPA]; omega)
   clear HO
   rw [← hPA] at HZ ⊢
   clear hPA hPL
   go_wp2_with fail
   clear jc
   go_loopw [3, 7, 50] (fun s _ i W => ∃ k : Nat, k ≤ b.slots.length ∧ i = .int .i64 k ∧ Aside0 (Kd.R (Kd.int .u8) 5 W w.heap.size (fun _ => True) s (PA ++ b.slots.take k)) ∧ Aside0 (bC W g [.int .u32 b.addr, .string b.aff, .slice As b.slots.length cs, .slice Af b.free.length cf, .slice Aa M.length ca] 49) ∧ Aside0 (Below w.heap.size w W)) (fun _ _ i _ => b.slots.length - (intOf i).toNat)
   case atStart => exact ⟨0, by omega, rfl, HZ, HX, HB⟩
   case round =>
    clear HZ HX HB
    obtain ⟨k, hk, rfl, HO, HX, HB⟩ := hrel
    obtain ⟨W, rfl⟩ : ∃ W : World, W = wr := ⟨_, rfl⟩
    by_cases hkn : k < b.slots.length
    ·have hkb : decide ((k : Int) < (b.slots.length : Int)) = true := by simp; omega
     obtain ⟨ad, eA, hx⟩ := Kd.at_int (Kd.C_below C1.out HB.out) k (by omega) (by omega)
     cases eA
     rw [Int.toNat_natCast] at hx
     have p1 : ((k : Int) < (b.slots.length : Int)) = True := eq_true (by omega)
     obtain ⟨m, hm⟩ : ∃ m : Nat, rd b.slots k = (m : Int) := ⟨(rd b.slots k).toNat, by have := (iA HK.out.s8 k).1; omega⟩
     have Fz : m < 256 := by have := (iA HK.out.s8 k).2; omega
     rw [hm] at hx
     obtain ⟨L, hL⟩ : ∃ L : List Int, L = PA ++ b.slots.take (k + 1) := ⟨_, rfl⟩
     obtain ⟨L0, BF⟩ : ∃ L0 : List Int, L0 = PA ++ b.slots.take k := ⟨_, rfl⟩
     have HLq := ak hL
     have HT := ak (show L = L0 ++ [(m : Int)] by
      rw [hL, BF, ← hm, List.take_add_one, List.getElem?_eq_getElem hkn]; simp [rd, List.getD, hkn])
     rw [← BF] at HO
     have hlen := ak (show L0.length ≤ 10000 by have := HPL.out; have := HSL.out; rw [BF, List.length_append, List.length_take]; omega)
     clear hL BF hm
     obtain ⟨Ao, co, rfl⟩ := Kd.R_slice HO.out
     go_wp2_with (first | ((with_reducible refine cx (b := .append) (xs := #[.tmp 54, .tmp 57]) rfl ?_); at_builtin; refine Kd.R_append (Kd.int .u8) (w0 := w) w.heap.size rfl (.tmp 54) (.tmp 57) 61 5 (.int .u8 0) 1 rfl Tryz.underlying61 kA rfl (by decide) (by omega) _ L0 (m : Int) [.int .u8 (m : Int)] (fun _ => True) (fun _ => False) rfl rfl rfl (fun _ hk => hk.elim) (fun _ _ => trivial) HO.out HB.out HB.out.size (by have := hlen.out; omega) ?_; intro v1 w1 fx aw cj j9; have eM := ak (HX.out.grown cj (HX.out.ne_row HO.out (by decide))); rw [← HT.out] at fx; have kg := ak fx; have bR := ak aw; clear fx aw cj j9 HX HO HB hx))
     go_roundw
     case rel => exact ⟨k + 1, by omega, by go_num, ⟨by rw [← HLq.out]; exact kg.out⟩, eM, bR⟩
     case measure => simp [intOf]; omega
    ·obtain rfl : k = b.slots.length := by omega
     have hkb : decide ((b.slots.length : Int) < (b.slots.length : Int)) = false := by simp
     rw [List.take_of_length_le (Nat.le_refl b.slots.length)] at HO
     obtain ⟨L4, P3⟩ : ∃ L4 : List Int, L4 = PA ++ b.slots := ⟨_, rfl⟩
     obtain ⟨L5, UC⟩ : ∃ L5 : List Int, L5 = L4 ++ [(b.free.length : Int)] := ⟨_, rfl⟩
     have H4 := ak P3
     have H5 := ak UC
     rw [← P3] at HO
     have l4 := ak (show L4.length ≤ 10000 by have := HPL.out; have := HSL.out; rw [P3, List.length_append]; omega)
     have l5 := ak (show L5.length ≤ 10001 by have := l4.out; rw [UC, List.length_append, List.length_singleton]; omega)
     clear P3 UC
     obtain ⟨Ao, co, rfl⟩ := Kd.R_slice HO.out
     have xK := HX.out.cell 3 _ rfl
     go_wp2_with (first | ((with_reducible refine cx (b := .append) (xs := #[.tmp 60, .tmp 65]) rfl ?_); at_builtin; refine Kd.R_append (Kd.int .u8) (w0 := w) w.heap.size rfl (.tmp 60) (.tmp 65) 61 5 (.int .u8 0) 1 rfl Tryz.underlying61 kA rfl (by decide) (by omega) _ L4 (b.free.length : Int) [.int .u8 (b.free.length : Int)] (fun _ => True) (fun _ => False) rfl rfl rfl (fun _ hk => hk.elim) (fun _ _ => trivial) HO.out HB.out HB.out.size (by have := l4.out; omega) ?_; intro v1 w1 fx aw cj j9; have eM := ak (HX.out.grown cj (HX.out.ne_row HO.out (by decide))); rw [← H5.out] at fx; have kg := ak (show Kd.R (Kd.int .u8) 5 w1 w.heap.size (fun _ => True) v1 (L5 ++ b.free.take 0) by rw [List.take_zero, List.append_nil]; exact fx); have bR := ak aw; have Z4 := eM.out.cell 3 _ rfl; clear fx aw cj j9 HX HO HB xK))
     clear Z4
     go_loopw [3, 9, 70] (fun s _ i W => ∃ k : Nat, k ≤ b.free.length ∧ i = .int .i64 k ∧ Aside0 (Kd.R (Kd.int .u8) 5 W w.heap.size (fun _ => True) s (L5 ++ b.free.take k)) ∧ Aside0 (Below w.heap.size w W)) (fun _ _ i _ => b.free.length - (intOf i).toNat)
     case atStart => exact ⟨0, by omega, rfl, kg, bR⟩
     case round =>
      clear kg eM bR
      obtain ⟨k, hk, rfl, HO, HB⟩ := hrel
      obtain ⟨W, rfl⟩ : ∃ W : World, W = wr := ⟨_, rfl⟩
      by_cases hkn : k < b.free.length
      ·have hkb : decide ((k : Int) < (b.free.length : Int)) = true := by simp; omega
       obtain ⟨ad, eA, hx⟩ := Kd.at_int (Kd.C_below C2.out HB.out) k (by omega) (by omega)
       cases eA
       rw [Int.toNat_natCast] at hx
       have p1 : ((k : Int) < (b.free.length : Int)) = True := eq_true (by omega)
       obtain ⟨m, hm⟩ : ∃ m : Nat, rd b.free k = (m : Int) := ⟨(rd b.free k).toNat, by have := (iA HK.out.f8 k).1; omega⟩
       have Fz : m < 256 := by have := (iA HK.out.f8 k).2; omega
       rw [hm] at hx
       obtain ⟨L, hL⟩ : ∃ L : List Int, L = L5 ++ b.free.take (k + 1) := ⟨_, rfl⟩
       obtain ⟨L0, BF⟩ : ∃ L0 : List Int, L0 = L5 ++ b.free.take k := ⟨_, rfl⟩
       have HLq := ak hL
       have HT := ak (show L = L0 ++ [(m : Int)] by
        rw [hL, BF, ← hm, List.take_add_one, List.getElem?_eq_getElem hkn]; simp [rd, List.getD, hkn])
       rw [← BF] at HO
       have hlen := ak (show L0.length ≤ 11000 by have := l5.out; have := HFL.out; rw [BF, List.length_append, List.length_take]; omega)
       clear hL BF hm
       obtain ⟨Ao, co, rfl⟩ := Kd.R_slice HO.out
       go_wp2_with (first | ((with_reducible refine cx (b := .append) (xs := #[.tmp 74, .tmp 77]) rfl ?_); at_builtin; refine Kd.R_append (Kd.int .u8) (w0 := w) w.heap.size rfl (.tmp 74) (.tmp 77) 61 5 (.int .u8 0) 1 rfl Tryz.underlying61 kA rfl (by decide) (by omega) _ L0 (m : Int) [.int .u8 (m : Int)] (fun _ => True) (fun _ => False) rfl rfl rfl (fun _ hk => hk.elim) (fun _ _ => trivial) HO.out HB.out HB.out.size (by have := hlen.out; omega) ?_; intro v1 w1 fx aw cj j9; rw [← HT.out] at fx; have kg := ak fx; have bR := ak aw; clear fx aw cj j9 HO HB hx))
       go_roundw
       case rel => exact ⟨k + 1, by omega, by go_num, ⟨by rw [← HLq.out]; exact kg.out⟩, bR⟩
       case measure => simp [intOf]; omega
      ·obtain rfl : k = b.free.length := by omega
       have hkb : decide ((b.free.length : Int) < (b.free.length : Int)) = false := by simp
       rw [List.take_of_length_le (Nat.le_refl b.free.length)] at HO
       have HI := ak (show L5 ++ b.free = nO b by
        rw [H5.out, H4.out, HPA.out]
        simp [nO])
       obtain ⟨L6, UB⟩ : ∃ L6 : List Int, L6 = L5 ++ b.free := ⟨_, rfl⟩
       have H6 := ak UB
       rw [← UB] at HO
       clear UB
       obtain ⟨A9, c9, hq9, aT3, YD⟩ := Kd.R_reads HO.out
       subst hq9
       have hst := Kd.C_string (P := Tryz.prog) (src := 61) (dst := 9) (c := c9) Tryz.underlying61 Tryz.underlying5 Tryz.underlying9 YD
       clear YD
       go_wp2_with fail
       go_ret
       exact ⟨by rw [← HI.out, ← H6.out]; rfl, HB.out⟩
end
section
attribute [local go_sem] bq bn bI bH aW aV bp bj
theorem P8 (d : Nat) (w : World) (x0 y0 : ByteArray) (x1 y1 : ByteArray) :
  (Op.equalIn (d + 2) 78 (.agg #[.string x0, .string x1]) (.agg #[.string y0, .string y1])).run Tryz.prog w = .ok (x0.toList == y0.toList && (x1.toList == y1.toList)) w := by
 refine wE Tryz.underlying78 (by kernel_rfl) ?_
 refine qT (by rfl) (by go_simp; rfl) (by go_simp; rfl) (by go_simp) ?_
 exact qS (by rfl) (by go_simp; rfl) (by go_simp; rfl) (by go_simp)
end
section
attribute [local go_sem] bq bn bI bH aW aV bp bj
def dK.f (k : Nat) (a0 : ByteArray) : Option (Bool) := if a0.toList = ([] : List UInt8) then (some true) else ((al.f k a0).bind fun s4 => (some s4))
set_option maxHeartbeats 8000000 in
set_option maxRecDepth 100000 in
theorem dK.calls (k : Nat) (a0 : ByteArray) (r : Bool) (w : World) (h : dK.f k a0 = some r) :
  Calls Tryz.prog 100 #[.string a0] w fun e w' => e = .returned (.bool r) ∧ Drawn0 w w' := by
 have H : (if a0.toList = ([] : List UInt8) then (some true) else ((al.f k a0).bind fun s4 => (some s4))) = some r := h
 clear h
 by_cases c2 : a0.toList = ([] : List UInt8)
 ·rw [if_pos c2] at H
  have ig : (a0.toList == ([] : List UInt8)) = true := beq_iff_eq.mpr c2
  have yF : (a0.toList != ([] : List UInt8)) = false := bne_eq_false_iff_eq.mpr c2
  clear c2
  obtain rfl := Option.some.inj H
  go_enter Tryz.func100, Tryz.ntmps100
  go_wp2
  go_ret
  exact ⟨rf, dl⟩
 ·rw [if_neg c2] at H
  have ig : (a0.toList == ([] : List UInt8)) = false := beq_eq_false_iff_ne.mpr c2
  have yF : (a0.toList != ([] : List UInt8)) = true := bne_iff_ne.mpr c2
  replace H := Option.bind_eq_some_iff.mp H
  obtain ⟨s4, jO, H⟩ := H
  replace H : (some s4) = some r := H
  have A3 := ak jO
  clear jO
  obtain rfl := Option.some.inj H
  go_enter Tryz.func100, Tryz.ntmps100
  go_wp2_with (first | (go_at_call 43; (with_reducible refine (al.calls k a0 s4 _ A3.out).mono ?_); rintro e w' ⟨rfl, ⟨nd, rfl⟩⟩))
  go_ret
  exact ⟨rf, dl⟩
end
section
attribute [local go_sem] bq bn bI bH aW aV bp bj
def ff.f (k : Nat) (aI : ByteArray) (ax : ByteArray) : Option (Bool) := (al.f k aI).bind fun sZ => (if sZ = true then ((al.f k ax).bind fun mD => (some mD)) else (some false))
set_option maxHeartbeats 8000000 in
set_option maxRecDepth 100000 in
theorem ff.calls (k : Nat) (aI : ByteArray) (ax : ByteArray) (r : Bool) (w : World) (h : ff.f k aI ax = some r) :
  Calls Tryz.prog 101 #[.agg #[.string aI, .string ax]] w fun e w' => e = .returned (.bool r) ∧ Below w.heap.size w w' := by
 have Zq := Tryz.underlying78
 have HB := ak (Below.refl w.heap.size w)
 have H : ((al.f k aI).bind fun sZ => (if sZ = true then ((al.f k ax).bind fun mD => (some mD)) else (some false))) = some r := h
 clear h
 replace H := Option.bind_eq_some_iff.mp H
 obtain ⟨sZ, eS, H⟩ := H
 replace H : (if sZ = true then ((al.f k ax).bind fun mD => (some mD)) else (some false)) = some r := H
 have A2 := ak eS
 clear eS
 by_cases c3 : sZ = true
 ·subst c3
  replace H : ((al.f k ax).bind fun mD => (some mD)) = some r := by rw [if_pos rfl] at H; exact H
  replace H := Option.bind_eq_some_iff.mp H
  obtain ⟨mD, so, H⟩ := H
  replace H : (some mD) = some r := H
  have A4 := ak so
  clear so
  obtain rfl := Option.some.inj H
  go_enter Tryz.func101, Tryz.ntmps101
  go_wp2_with (first | ((with_reducible refine af (N := 1) rfl ?_); refine bE (N := 1) (cs := #[.string aI, .string ax]) (t := 78) ?_; intro ud hg w5 hbox hb; have ma := ak (hbox); have Pj := ak (gl hg : w.heap.size ≤ ud); have Pn := ak (gl hg : w.heap.size ≤ ud); replace HB := bs hb; clear hb hbox hg; have yu := cf ma 0; have yt := cf ma 1; have yr := J ma.out 0; have yq := J ma.out 1) | ((with_reducible refine au (f := 43) rfl ?_); refine gC (some 5) Tryz.func43 #[.string aI] ?_; (with_reducible refine (al.calls k aI true _ A2.out).mono ?_); rintro e w' ⟨rfl, ⟨nd, rfl⟩⟩; refine ⟨_, rfl, ?_⟩) | (go_at_call 43; (with_reducible refine (al.calls k ax mD _ A4.out).mono ?_); rintro e w' ⟨rfl, ⟨nd, rfl⟩⟩))
  go_ret
  exact ⟨rg, bl⟩
 ·replace c3 := Bool.eq_false_iff.mpr c3
  subst c3
  replace H : (some false) = some r := by rw [if_neg (show ¬ (false = true) by decide)] at H; exact H
  obtain rfl := Option.some.inj H
  go_enter Tryz.func101, Tryz.ntmps101
  go_wp2_with (first | ((with_reducible refine af (N := 1) rfl ?_); refine bE (N := 1) (cs := #[.string aI, .string ax]) (t := 78) ?_; intro ud hg w7 hbox hb; have ma := ak (hbox); have Pj := ak (gl hg : w.heap.size ≤ ud); have Pn := ak (gl hg : w.heap.size ≤ ud); replace HB := bs hb; clear hb hbox hg; have qq := cf ma 0; have qp := cf ma 1; have qo := J ma.out 0; have qn := J ma.out 1) | ((with_reducible refine au (f := 43) rfl ?_); refine gC (some 5) Tryz.func43 #[.string aI] ?_; (with_reducible refine (al.calls k aI false _ A2.out).mono ?_); rintro e w' ⟨rfl, ⟨nd, rfl⟩⟩; refine ⟨_, rfl, ?_⟩))
  go_ret
  exact ⟨rg, bl⟩
end
section
attribute [local go_sem] bq bn bI bH aW aV bp bj
def a8.l0 : Nat → Int → Int → List Int → Int → Int → Option (Int)
 | 0, _, _, _, _, _ => none
 | k + 1, x1, x5, x8, x9, vF => if vF < x9 then (if 0 ≤ vF then (if vF < (x8.length : Int) then (if (rd x8 vF) = x1 then (a8.l0 k x1 (wrap64 (x5 + 1)) x8 x9 (wrap64 (vF + 1))) else (a8.l0 k x1 x5 x8 x9 (wrap64 (vF + 1)))) else (none)) else (none)) else (some x5)
def a8.f (k : Nat) (l0 : List Int) (a1 : Int) : Option (Int) := a8.l0 k a1 0 l0 (l0.length : Int) 0
set_option maxHeartbeats 8000000 in
set_option maxRecDepth 100000 in
theorem a8.calls (k : Nat) (A0 : Option Addr) (c0 : Nat) (l0 : List Int) (a1 : Int) (r : Int) (w : World) (nS : Kd.C (Kd.int .i64) w A0 l0.length l0) (en : l0.length ≤ c0) (h : a8.f k l0 a1 = some r) :
  Calls Tryz.prog 102 #[.slice A0 l0.length c0, .int .i64 a1] w fun e w' => e = .returned (.int .i64 r) ∧ Drawn0 w w' := by
 have lJ := ak nS
 have qJ := ak en
 clear nS en
 have H : (a8.l0 k a1 0 l0 (l0.length : Int) 0) = some r := h
 clear h
 have H' := ak H; clear H
 go_enter Tryz.func102, Tryz.ntmps102
 go_wp2
 go_loopg [5, 10] k (fun kq v5 v10 w' => ∃ (bW : Int) (dX : Int), v5 = .int .i64 bW ∧ v10 = .int .i64 dX ∧ Aside0 (a8.l0 kq a1 bW l0 (l0.length : Int) dX = some r) ∧ Aside0 (kq ≤ k) ∧ Drawn0 w w')
 case atStart => exact ⟨(0), (0), rf, rf, H', ⟨Nat.le_refl _⟩, dl⟩
 case round =>
  clear H'
  obtain ⟨bW, dX, rfl, rfl, HA, ee, ⟨m1, rfl⟩⟩ := hrel
  cases gk with
  | zero => exact absurd HA.out (by simp [a8.l0])
  | succ k1 =>
   have H := HA.out
   clear HA
   simp only [a8.l0] at H
   by_cases c3 : dX < (l0.length : Int)
   ·rw [if_pos c3] at H
    have gq := decide_eq_true c3
    clear c3
    by_cases c4 : 0 ≤ dX
    ·rw [if_pos c4] at H
     have eQ := decide_eq_true c4
     clear c4
     by_cases c5 : dX < (l0.length : Int)
     ·rw [if_pos c5] at H
      have nF := decide_eq_true c5
      clear c5
      by_cases c6 : (rd l0 dX) = a1
      ·rw [if_pos c6] at H
       have jd : ((rd l0 dX) == a1) = true := beq_iff_eq.mpr c6
       have xr : ((rd l0 dX) != a1) = false := bne_eq_false_iff_eq.mpr c6
       clear c6
       have H' := ak H; clear H
       have qN : 0 ≤ (dX : Int) := od
       have qM : dX < (l0.length : Int) := od
       obtain ⟨ON, CO, JY⟩ := Kd.at_int lJ.out dX qN qM
       cases CO
       replace qN := eq_true qN
       replace qM := eq_true qM
       go_wp2
       go_roundg k1
       case measure => have := ee.out; omega
       case rel => exact ⟨(wrap64 (bW + 1)), (wrap64 (dX + 1)), rf, rf, H', ⟨by have := ee.out; omega⟩, dl⟩
      ·rw [if_neg c6] at H
       have jd : ((rd l0 dX) == a1) = false := beq_eq_false_iff_ne.mpr c6
       have xr : ((rd l0 dX) != a1) = true := bne_iff_ne.mpr c6
       have H' := ak H; clear H
       have qN : 0 ≤ (dX : Int) := od
       have qM : dX < (l0.length : Int) := od
       obtain ⟨ON, CO, JY⟩ := Kd.at_int lJ.out dX qN qM
       cases CO
       replace qN := eq_true qN
       replace qM := eq_true qM
       go_wp2
       go_roundg k1
       case measure => have := ee.out; omega
       case rel => exact ⟨(bW), (wrap64 (dX + 1)), rf, rf, H', ⟨by have := ee.out; omega⟩, dl⟩
     ·rw [if_neg c5] at H
      exact absurd H (by simp)
    ·rw [if_neg c4] at H
     exact absurd H (by simp)
   ·rw [if_neg c3] at H
    have gq := decide_eq_false c3
    clear c3
    obtain rfl := Option.some.inj H
    go_wp2
    go_ret
    exact ⟨rf, dl⟩
end
section
attribute [local go_sem] bq bn bI bH aW aV bp bj
attribute [local go_sem high] P8
mutual
def ab.j0 : Nat → Bool → Int → ByteArray → List Int → List Int → List (S78) → Option (Bool)
 | 0, _, _, _, _, _, _ => none
 | k + 1, x33, fw, fv, eH, ek, eb => if x33 = true then (some false) else (ab.l0 k eb (eb.length : Int) 0 fw fv eH ek eb)
def ab.l0 : Nat → List (S78) → Int → Int → Int → ByteArray → List Int → List Int → List (S78) → Option (Bool)
 | 0, _, _, _, _, _, _, _, _ => none
 | k + 1, uA, Da, pT, fw, fv, eH, ek, eb => if pT < Da then (if 0 ≤ pT then (if pT < (uA.length : Int) then ((ff.f k ((aY uA pT).f0) ((aY uA pT).f1)).bind fun AL => (if AL = true then ((a8.f k eH (wrap64 (pT + 1))).bind fun pZ => (ab.j2 k pT uA Da pT (pZ == 0) fw fv eH ek eb ((aY uA pT).f0) ((aY uA pT).f1))) else (ab.j2 k pT uA Da pT true fw fv eH ek eb ((aY uA pT).f0) ((aY uA pT).f1)))) else (none)) else (none)) else (ab.l2 k eH (eH.length : Int) 0 fw fv eH ek eb)
def ab.j2 : Nat → Int → List (S78) → Int → Int → Bool → Int → ByteArray → List Int → List Int → List (S78) → ByteArray → ByteArray → Option (Bool)
 | 0, _, _, _, _, _, _, _, _, _, _, _, _ => none
 | k + 1, x3, uA, Da, pT, x52, fw, fv, eH, ek, eb, uz, uy => if x52 = true then (some false) else (if 0 ≤ x3 then (if x3 ≤ (eb.length : Int) then ((some (eb.take (x3 : Int).toNat : List (S78))).bind fun dZ => (ab.l1 k uA Da pT dZ (dZ.length : Int) 0 fw fv eH ek eb uz uy)) else (none)) else (none))
def ab.l1 : Nat → List (S78) → Int → Int → List (S78) → Int → Int → Int → ByteArray → List Int → List Int → List (S78) → ByteArray → ByteArray → Option (Bool)
 | 0, _, _, _, _, _, _, _, _, _, _, _, _, _ => none
 | k + 1, uA, Da, pT, Pt, X1, Hr, fw, fv, eH, ek, eb, uz, uy => if Hr < X1 then (if 0 ≤ Hr then (if Hr < (Pt.length : Int) then (if ((((aY Pt Hr).f0).toList) == uz.toList && ((((aY Pt Hr).f1).toList) == uy.toList)) = true then (some false) else (ab.l1 k uA Da pT Pt X1 (wrap64 (Hr + 1)) fw fv eH ek eb uz uy)) else (none)) else (none)) else (ab.l0 k uA Da (wrap64 (pT + 1)) fw fv eH ek eb)
def ab.l2 : Nat → List Int → Int → Int → Int → ByteArray → List Int → List Int → List (S78) → Option (Bool)
 | 0, _, _, _, _, _, _, _, _ => none
 | k + 1, zu, Hq, ux, fw, fv, eH, ek, eb => if ux < Hq then (if 0 ≤ ux then (if ux < (zu.length : Int) then (if (rd zu ux) < 0 then (ab.j5 k ux (rd zu ux) zu Hq ux true fw fv eH ek eb) else (ab.j5 k ux (rd zu ux) zu Hq ux (decide ((rd zu ux) > (eb.length : Int))) fw fv eH ek eb)) else (none)) else (none)) else (ab.l3 k ek (ek.length : Int) 0)
def ab.j5 : Nat → Int → Int → List Int → Int → Int → Bool → Int → ByteArray → List Int → List Int → List (S78) → Option (Bool)
 | 0, _, _, _, _, _, _, _, _, _, _, _ => none
 | k + 1, x7, x8, zu, Hq, ux, x83, fw, fv, eH, ek, eb => if x83 = true then (some false) else (if x8 = 0 then ((a8.f k ek x7).bind fun mc => (if mc = 1 then (ab.l2 k zu Hq (wrap64 (ux + 1)) fw fv eH ek eb) else (some false))) else ((a8.f k ek x7).bind fun mb => (if mb = 0 then (ab.l2 k zu Hq (wrap64 (ux + 1)) fw fv eH ek eb) else (some false))))
def ab.l3 : Nat → List Int → Int → Int → Option (Bool)
 | 0, _, _, _ => none
 | k + 1, Ps, X0, Hp => if Hp < X0 then (if 0 ≤ Hp then (if Hp < (Ps.length : Int) then (if (rd Ps Hp) < 0 then (some false) else (if (rd Ps Hp) > 63 then (some false) else (ab.l3 k Ps X0 (wrap64 (Hp + 1))))) else (none)) else (none)) else (some true)
end
def ab.f (k : Nat) (aI : Int) (ax : ByteArray) (cn : List Int) (cW : List Int) (aT : List (S78)) : Option (Bool) := if (Int.tmod aI 64) = 0 then ((dK.f k ax).bind fun vN => (if vN = true then (if (aT.length : Int) > 64 then (ab.j0 k true aI ax cn cW aT) else (ab.j0 k ((cn.length : Int) != 64) aI ax cn cW aT)) else (ab.j0 k true aI ax cn cW aT))) else (ab.j0 k true aI ax cn cW aT)
set_option maxHeartbeats 8000000 in
set_option maxRecDepth 100000 in
theorem ab.calls (k : Nat) (aI : Int) (ax : ByteArray) (uw : Option Addr) (sy : Nat) (cn : List Int) (n7 : Option Addr) (nY : Nat) (cW : List Int) (yS : Option Addr) (oV : Nat) (aT : List (S78)) (r : Bool) (w : World) (PM : Kd.C (Kd.int .i64) w uw cn.length cn) (PV : cn.length ≤ sy) (PL : Kd.C (Kd.int .i64) w n7 cW.length cW) (PU : cW.length ≤ nY) (PK : Kd.C iZ w yS aT.length aT) (PT : aT.length ≤ oV) (h : ab.f k aI ax cn cW aT = some r) :
  Calls Tryz.prog 68 #[.agg #[.int .u32 aI, .string ax, .slice uw cn.length sy, .slice n7 cW.length nY, .slice yS aT.length oV]] w fun e w' => e = .returned (.bool r) ∧ Below w.heap.size w w' := by
 have aR1 := Tryz.underlying49
 have Zq := Tryz.underlying78
 have QA := ak PM
 have XV := ak PV
 clear PM PV
 have xx := ak PL
 have Ep := ak PU
 clear PL PU
 have Qz := ak PK
 have XU := ak PT
 clear PK PT
 have HB := ak (Below.refl w.heap.size w)
 have H : (if (Int.tmod aI 64) = 0 then ((dK.f k ax).bind fun vN => (if vN = true then (if (aT.length : Int) > 64 then (ab.j0 k true aI ax cn cW aT) else (ab.j0 k ((cn.length : Int) != 64) aI ax cn cW aT)) else (ab.j0 k true aI ax cn cW aT))) else (ab.j0 k true aI ax cn cW aT)) = some r := h
 clear h
 have nV := ak H
 clear H
 go_enter Tryz.func68, Tryz.ntmps68
 go_upto_region 1 with (first | ((with_reducible refine af (N := 1) rfl ?_); (try (refine bL (by rfl) ?_; dsimp only)); refine bE (N := 1) (cs := #[.int .u32 aI, .string ax, .slice uw cn.length sy, .slice n7 cW.length nY, .slice yS aT.length oV]) (t := 49) ?_; intro ly hg w3 hbox hb; have an := ak (hbox); have aA7 := ak (gl hg : w.heap.size ≤ ly); have aB7 := ak (gl hg : w.heap.size ≤ ly); replace HB := bs hb; clear hb hbox hg))
 (try simp only [Act.put, List.setIfInBounds_toArray, List.set_cons_zero, List.set_cons_succ])
 go_cut [33] (fun v33 wc => ∃ (kq : Nat) (Eh : Bool), v33 = .bool Eh ∧ Aside0 (ab.j0 kq Eh aI ax cn cW aT = some r) ∧ Aside0 (kq ≤ k) ∧ Aside0 (wc.heap[ly]? = some (.cells #[.int .u32 aI, .string ax, (.slice uw cn.length sy), (.slice n7 cW.length nY), (.slice yS aT.length oV)] 49 (0, 0))) ∧ Aside0 (Below w.heap.size w wc))
 case first =>
  have H := nV.out
  clear nV
  by_cases c4 : (Int.tmod aI 64) = 0
  ·rw [if_pos c4] at H
   have eQ : ((Int.tmod aI 64) == 0) = true := beq_iff_eq.mpr c4
   have Aw : ((Int.tmod aI 64) != 0) = false := bne_eq_false_iff_eq.mpr c4
   clear c4
   (first | rw [eQ] | (simp only [gO, kj]; rw [eQ]) | skip)
   replace H := Option.bind_eq_some_iff.mp H
   obtain ⟨vN, yQ, H⟩ := H
   replace H : (if vN = true then (if (aT.length : Int) > 64 then (ab.j0 k true aI ax cn cW aT) else (ab.j0 k ((cn.length : Int) != 64) aI ax cn cW aT)) else (ab.j0 k true aI ax cn cW aT)) = some r := H
   have A5 := ak yQ
   clear yQ
   by_cases c6 : vN = true
   ·subst c6
    replace H : (if (aT.length : Int) > 64 then (ab.j0 k true aI ax cn cW aT) else (ab.j0 k ((cn.length : Int) != 64) aI ax cn cW aT)) = some r := by rw [if_pos rfl] at H; exact H
    by_cases c7 : (aT.length : Int) > 64
    ·rw [if_pos c7] at H
     have qV := decide_eq_true c7
     have Av : decide (64 < aT.length) = true := decide_eq_true (by omega)
     clear c7
     have H' := ak H; clear H
     have qq := cf an 0
     have qp := cf an 1
     have FH := cf an 2
     have Ut := cf an 3
     have Us := cf an 4
     have qo := J an.out 0
     have qn := J an.out 1
     have FD := J an.out 2
     have Um := J an.out 3
     have Ul := J an.out 4
     go_wp2_with (first | (go_at_call 100; (with_reducible refine (dK.calls k ax true _ A5.out).mono ?_); rintro e w' ⟨rfl, ⟨nd, rfl⟩⟩))
     go_meet
     case rel => exact ⟨_, (true), rf, H', ⟨by first | omega | exact Nat.le_refl _⟩, ⟨by (with_reducible repeat (first | refine ag ?_ _ | refine aj ?_ | refine ah ?_ _)); exact an.out⟩, ⟨bl⟩⟩
    ·rw [if_neg c7] at H
     have qV := decide_eq_false c7
     have Av : decide (64 < aT.length) = false := decide_eq_false (by omega)
     clear c7
     have H' := ak H; clear H
     have By := cf an 0
     have Bx := cf an 1
     have aE7 := cf an 2
     have aE6 := cf an 3
     have aE5 := cf an 4
     have Bu := J an.out 0
     have Bt := J an.out 1
     have aD2 := J an.out 2
     have aD1 := J an.out 3
     have aD0 := J an.out 4
     go_wp2_with (first | (go_at_call 100; (with_reducible refine (dK.calls k ax true _ A5.out).mono ?_); rintro e w' ⟨rfl, ⟨nd, rfl⟩⟩))
     go_meet
     case rel => exact ⟨_, (((cn.length : Int) != 64)), rf, H', ⟨by first | omega | exact Nat.le_refl _⟩, ⟨by (with_reducible repeat (first | refine ag ?_ _ | refine aj ?_ | refine ah ?_ _)); exact an.out⟩, ⟨bl⟩⟩
   ·replace c6 := Bool.eq_false_iff.mpr c6
    subst c6
    replace H : (ab.j0 k true aI ax cn cW aT) = some r := by rw [if_neg (show ¬ (false = true) by decide)] at H; exact H
    have H' := ak H; clear H
    have tc := cf an 0
    have tb := cf an 1
    have CH := cf an 2
    have Sh := cf an 3
    have Sg := cf an 4
    have ta := J an.out 0
    have s9 := J an.out 1
    have Cw := J an.out 2
    have RQ := J an.out 3
    have RP := J an.out 4
    go_wp2_with (first | (go_at_call 100; (with_reducible refine (dK.calls k ax false _ A5.out).mono ?_); rintro e w' ⟨rfl, ⟨nd, rfl⟩⟩))
    go_meet
    case rel => exact ⟨_, (true), rf, H', ⟨by first | omega | exact Nat.le_refl _⟩, ⟨by (with_reducible repeat (first | refine ag ?_ _ | refine aj ?_ | refine ah ?_ _)); exact an.out⟩, ⟨bl⟩⟩
  ·rw [if_neg c4] at H
   have eQ : ((Int.tmod aI 64) == 0) = false := beq_eq_false_iff_ne.mpr c4
   have Aw : ((Int.tmod aI 64) != 0) = true := bne_iff_ne.mpr c4
   (first | rw [eQ] | (simp only [gO, kj]; rw [eQ]) | skip)
   have H' := ak H; clear H
   have py := cf an 0
   have px := cf an 1
   have az6 := cf an 2
   have az5 := cf an 3
   have az4 := cf an 4
   have pw := J an.out 0
   have pt := J an.out 1
   have ap1 := J an.out 2
   have ap0 := J an.out 3
   have ao9 := J an.out 4
   go_wp2
   go_meet
   case rel => exact ⟨_, (true), rf, H', ⟨by first | omega | exact Nat.le_refl _⟩, ⟨by (with_reducible repeat (first | refine ag ?_ _ | refine aj ?_ | refine ah ?_ _)); exact an.out⟩, ⟨bl⟩⟩
 case rest =>
  clear nV
  obtain ⟨kq, Eh, rfl, HA, mS, an, HB⟩ := hcut
  cases kq with
  | zero => exact absurd HA.out (by simp [ab.j0])
  | succ tI =>
   have H := HA.out
   clear HA
   simp only [ab.j0] at H
   by_cases dB : Eh = true
   ·subst dB
    replace H : (some false) = some r := by rw [if_pos rfl] at H; exact H
    obtain rfl := Option.some.inj H
    go_wp2
    go_ret
    exact ⟨rg, bl⟩
   ·replace dB := Bool.eq_false_iff.mpr dB
    subst dB
    replace H : (ab.l0 tI aT (aT.length : Int) 0 aI ax cn cW aT) = some r := by rw [if_neg (show ¬ (false = true) by decide)] at H; exact H
    have H' := ak H; clear H
    have Se := cf an 0
    have Sd := cf an 1
    have az3 := cf an 2
    have az2 := cf an 3
    have az1 := cf an 4
    have RN := J an.out 0
    have RM := J an.out 1
    have ao8 := J an.out 2
    have ao7 := J an.out 3
    have ao6 := J an.out 4
    go_wp2
    go_loopg [37] tI (fun kq v37 w' => ∃ (bz : Int), v37 = .int .i64 bz ∧ Aside0 (ab.l0 kq aT (aT.length : Int) bz aI ax cn cW aT = some r) ∧ Aside0 (kq ≤ tI) ∧ Aside0 (w'.heap[ly]? = some (.cells #[.int .u32 aI, .string ax, (.slice uw cn.length sy), (.slice n7 cW.length nY), (.slice yS aT.length oV)] 49 (0, 0))) ∧ Aside0 (Below w.heap.size w w'))
    case atStart => exact ⟨(0), rf, H', ⟨Nat.le_refl _⟩, ⟨by (with_reducible repeat (first | refine ag ?_ _ | refine aj ?_ | refine ah ?_ _)); exact an.out⟩, ⟨bl⟩⟩
    case round =>
     clear H'
     obtain ⟨bz, rfl, HA, kO, an, HB⟩ := hrel
     cases gk with
     | zero => exact absurd HA.out (by simp [ab.l0])
     | succ k2 =>
      have H := HA.out
      clear HA
      simp only [ab.l0] at H
      by_cases hG : bz < (aT.length : Int)
      ·rw [if_pos hG] at H
       have zo := decide_eq_true hG
       clear hG
       by_cases u7 : 0 ≤ bz
       ·rw [if_pos u7] at H
        have XM := decide_eq_true u7
        clear u7
        by_cases qG : bz < (aT.length : Int)
        ·rw [if_pos qG] at H
         have Eo := decide_eq_true qG
         clear qG
         have O9 := ak H
         clear H
         have EX : 0 ≤ (bz : Int) := od
         have EO : bz < (aT.length : Int) := od
         obtain ⟨pJ, UU, DD, DC⟩ := wQ Qz.out bz EX EO
         cases UU
         replace DD := hc HB DD
         replace DC := hc HB DC
         replace EX := eq_true EX
         replace EO := eq_true EO
         go_upto_region 6 with (first | ((with_reducible refine af (N := 4) rfl ?_); (try (refine bL (by rfl) ?_; dsimp only)); refine bE (N := 4) (cs := #[.string (⟨#[]⟩ : ByteArray), .string (⟨#[]⟩ : ByteArray)]) (t := 78) ?_; intro td hg Pu hbox hb; have cS := ak (hbox); have aA6 := ak (gl hg : w.heap.size ≤ td); have aB6 := ak (gl hg : w.heap.size ≤ td); replace HB := bs hb; have fT := ak (nl an hg); have kC := ak (ng an hg); replace an := bm an hb; clear hb hbox hg; have aK2 := kC.out; have aI1 := fT.out; have CA := cf cS 0; have Cz := cf cS 1; have Cp := J cS.out 0; have Co := J cS.out 1))
         (try simp only [Act.put, List.setIfInBounds_toArray, List.set_cons_zero, List.set_cons_succ])
         go_cut [52] (fun v52 wc => ∃ (kq : Nat) (AE : Bool), v52 = .bool AE ∧ Aside0 (ab.j2 kq bz aT (aT.length : Int) bz AE aI ax cn cW aT ((aY aT bz).f0) ((aY aT bz).f1) = some r) ∧ Aside0 (kq ≤ k2) ∧ Aside0 (wc.heap[ly]? = some (.cells #[.int .u32 aI, .string ax, (.slice uw cn.length sy), (.slice n7 cW.length nY), (.slice (some pJ) aT.length oV)] 49 (0, 0))) ∧ Aside0 (wc.heap[td]? = some (.cells #[.string ((aY aT bz).f0), .string ((aY aT bz).f1)] 78 (0, 0))) ∧ Aside0 (Below w.heap.size w wc))
         case first =>
          have H := O9.out
          clear O9
          replace H := Option.bind_eq_some_iff.mp H
          obtain ⟨AL, GX, H⟩ := H
          replace H : (if AL = true then ((a8.f k2 cn (wrap64 (bz + 1))).bind fun pZ => (ab.j2 k2 bz aT (aT.length : Int) bz (pZ == 0) aI ax cn cW aT ((aY aT bz).f0) ((aY aT bz).f1))) else (ab.j2 k2 bz aT (aT.length : Int) bz true aI ax cn cW aT ((aY aT bz).f0) ((aY aT bz).f1))) = some r := H
          have Jr := ak GX
          clear GX
          by_cases BO : AL = true
          ·subst BO
           replace H : ((a8.f k2 cn (wrap64 (bz + 1))).bind fun pZ => (ab.j2 k2 bz aT (aT.length : Int) bz (pZ == 0) aI ax cn cW aT ((aY aT bz).f0) ((aY aT bz).f1))) = some r := by rw [if_pos rfl] at H; exact H
           replace H := Option.bind_eq_some_iff.mp H
           obtain ⟨pZ, Wm, H⟩ := H
           replace H : (ab.j2 k2 bz aT (aT.length : Int) bz (pZ == 0) aI ax cn cW aT ((aY aT bz).f0) ((aY aT bz).f1)) = some r := H
           have A23 := ak Wm
           clear Wm
           have H' := ak H; clear H
           have aK0 := kC.out
           have aH9 := fT.out
           have Iy := cf cS 0
           have Ix := cf cS 1
           have Iw := J cS.out 0
           have Iv := J cS.out 1
           go_wp2_with (first | ((with_reducible refine au (f := 101) rfl ?_); refine gC (some 43) Tryz.func101 #[.agg #[.string ((aY aT bz).f0), .string ((aY aT bz).f1)]] ?_; (with_reducible refine (ff.calls k2 ((aY aT bz).f0) ((aY aT bz).f1) true _ Jr.out).mono ?_); rintro e S7 ⟨rfl, hb⟩; refine ⟨_, rfl, ?_⟩; replace an := ak (hJ (g := ly) (o := .cells #[.int .u32 aI, .string ax, .slice uw cn.length sy, .slice n7 cW.length nY, .slice (some pJ) aT.length oV] 49 (0, 0)) (by (with_reducible repeat (first | refine ag ?_ _ | refine aj ?_ | refine ah ?_ _)); refine dr ?_ fT.out _; (with_reducible repeat (first | refine ag ?_ _ | refine aj ?_ | refine ah ?_ _)); refine dr ?_ fT.out _; (with_reducible repeat (first | refine ag ?_ _ | refine aj ?_ | refine ah ?_ _)); exact an.out) hb); replace cS := ak (hJ (g := td) (o := .cells #[.string ((aY aT bz).f0), .string ((aY aT bz).f1)] 78 (0, 0)) (by (with_reducible repeat (first | refine ag ?_ _ | refine aj ?_ | refine ah ?_ _)); refine aM (cs := #[.string ((aY aT bz).f0), .string (⟨#[]⟩ : ByteArray)]) ?_ 1 _ rfl; (with_reducible repeat (first | refine ag ?_ _ | refine aj ?_ | refine ah ?_ _)); refine aM (cs := #[.string (⟨#[]⟩ : ByteArray), .string (⟨#[]⟩ : ByteArray)]) ?_ 0 _ rfl; (with_reducible repeat (first | refine ag ?_ _ | refine aj ?_ | refine ah ?_ _)); exact cS.out) hb); replace HB := bs hb; (try clear hb); (try clear aU); (try clear hk); (try clear hi); have ay8 := cf an 0; have ay7 := cf an 1; have ay6 := cf an 2; have ay5 := cf an 3; have ay4 := cf an 4; have ao3 := J an.out 0; have ao2 := J an.out 1; have ao1 := J an.out 2; have ao0 := J an.out 3; have an9 := J an.out 4) | (go_at_call 102; (with_reducible refine (a8.calls k2 _ _ cn (wrap64 (bz + 1)) pZ _ ?side1 ?side2 A23.out).mono ?_); (case side1 => repeat (first | exact (Kd.C_below QA.out HB.out) | (with_reducible refine Kd.C_alloc ?_ _) | (with_reducible refine Kd.C_drewN ?_ _) | (with_reducible refine Kd.C_drew ?_))); (case side2 => exact XV.out); rintro e w' ⟨rfl, ⟨nd, rfl⟩⟩))
           go_meet
           case rel => exact ⟨_, ((pZ == 0)), rf, H', ⟨by have := mS.out; have := kO.out; first | omega | exact Nat.le_refl _⟩, ⟨by (with_reducible repeat (first | refine ag ?_ _ | refine aj ?_ | refine ah ?_ _)); exact an.out⟩, ⟨by (with_reducible repeat (first | refine ag ?_ _ | refine aj ?_ | refine ah ?_ _)); exact cS.out⟩, ⟨bl⟩⟩
          ·replace BO := Bool.eq_false_iff.mpr BO
           subst BO
           replace H : (ab.j2 k2 bz aT (aT.length : Int) bz true aI ax cn cW aT ((aY aT bz).f0) ((aY aT bz).f1)) = some r := by rw [if_neg (show ¬ (false = true) by decide)] at H; exact H
           have H' := ak H; clear H
           have WT := kC.out
           have WQ := fT.out
           have R5 := cf cS 0
           have R4 := cf cS 1
           have RD := J cS.out 0
           have RC := J cS.out 1
           go_wp2_with (first | ((with_reducible refine au (f := 101) rfl ?_); refine gC (some 43) Tryz.func101 #[.agg #[.string ((aY aT bz).f0), .string ((aY aT bz).f1)]] ?_; (with_reducible refine (ff.calls k2 ((aY aT bz).f0) ((aY aT bz).f1) false _ Jr.out).mono ?_); rintro e w30 ⟨rfl, hb⟩; refine ⟨_, rfl, ?_⟩; replace an := ak (hJ (g := ly) (o := .cells #[.int .u32 aI, .string ax, .slice uw cn.length sy, .slice n7 cW.length nY, .slice (some pJ) aT.length oV] 49 (0, 0)) (by (with_reducible repeat (first | refine ag ?_ _ | refine aj ?_ | refine ah ?_ _)); refine dr ?_ fT.out _; (with_reducible repeat (first | refine ag ?_ _ | refine aj ?_ | refine ah ?_ _)); refine dr ?_ fT.out _; (with_reducible repeat (first | refine ag ?_ _ | refine aj ?_ | refine ah ?_ _)); exact an.out) hb); replace cS := ak (hJ (g := td) (o := .cells #[.string ((aY aT bz).f0), .string ((aY aT bz).f1)] 78 (0, 0)) (by (with_reducible repeat (first | refine ag ?_ _ | refine aj ?_ | refine ah ?_ _)); refine aM (cs := #[.string ((aY aT bz).f0), .string (⟨#[]⟩ : ByteArray)]) ?_ 1 _ rfl; (with_reducible repeat (first | refine ag ?_ _ | refine aj ?_ | refine ah ?_ _)); refine aM (cs := #[.string (⟨#[]⟩ : ByteArray), .string (⟨#[]⟩ : ByteArray)]) ?_ 0 _ rfl; (with_reducible repeat (first | refine ag ?_ _ | refine aj ?_ | refine ah ?_ _)); exact cS.out) hb); replace HB := bs hb; (try clear hb); (try clear aU); (try clear hk); (try clear hi)))
           go_meet
           case rel => exact ⟨_, (true), rf, H', ⟨by have := mS.out; have := kO.out; first | omega | exact Nat.le_refl _⟩, ⟨by (with_reducible repeat (first | refine ag ?_ _ | refine aj ?_ | refine ah ?_ _)); exact an.out⟩, ⟨by (with_reducible repeat (first | refine ag ?_ _ | refine aj ?_ | refine ah ?_ _)); exact cS.out⟩, ⟨bl⟩⟩
         case rest =>
          clear O9
          obtain ⟨kq, AE, rfl, HA, KG, an, cS, HB⟩ := hcut
          cases kq with
          | zero => exact absurd HA.out (by simp [ab.j2])
          | succ JW =>
           have H := HA.out
           clear HA
           simp only [ab.j2] at H
           by_cases Qm : AE = true
           ·subst Qm
            replace H : (some false) = some r := by rw [if_pos rfl] at H; exact H
            obtain rfl := Option.some.inj H
            go_wp2
            go_ret
            exact ⟨rg, bl⟩
           ·replace Qm := Bool.eq_false_iff.mpr Qm
            subst Qm
            replace H : (if 0 ≤ bz then (if bz ≤ (aT.length : Int) then ((some (aT.take (bz : Int).toNat : List (S78))).bind fun dZ => (ab.l1 JW aT (aT.length : Int) bz dZ (dZ.length : Int) 0 aI ax cn cW aT ((aY aT bz).f0) ((aY aT bz).f1))) else (none)) else (none)) = some r := by rw [if_neg (show ¬ (false = true) by decide)] at H; exact H
            by_cases MM : 0 ≤ bz
            ·rw [if_pos MM] at H
             have aO4 := eq_true MM
             have aO3 := decide_eq_true MM
             clear MM
             by_cases ML : bz ≤ (aT.length : Int)
             ·rw [if_pos ML] at H
              have aO2 := eq_true ML
              have aO1 := decide_eq_true ML
              clear ML
              obtain ⟨dZ, wi⟩ : ∃ y_ : List (S78), y_ = (aT.take (bz : Int).toNat) := ⟨_, rfl⟩
              replace H : (ab.l1 JW aT (aT.length : Int) bz dZ (dZ.length : Int) 0 aI ax cn cW aT ((aY aT bz).f0) ((aY aT bz).f1)) = some r := by first | (rw [wi]; with_reducible exact H) | (have gN := (Option.bind_some _ _).symm.trans H; rw [wi]; with_reducible exact gN) | (have gN := (Option.bind_some _ _).symm.trans H; with_reducible exact gN) | with_reducible exact H | (rw [wi]; exact H) | exact H
              have I6 := ak wi
              clear wi
              have H' := ak H; clear H
              have aJ6 := fT.out
              have aH5 := kC.out
              have ax9 := cf an 0
              have ax8 := cf an 1
              have ax7 := cf an 2
              have ax6 := cf an 3
              have ax5 := cf an 4
              have an4 := J an.out 0
              have an3 := J an.out 1
              have an2 := J an.out 2
              have an1 := J an.out 3
              have an0 := J an.out 4
              have Ty : (bz : Int) ≤ ((aT.length : Int) : Int) := od
              obtain ⟨aQ1, PQ, _, WN, _⟩ := info_parts TT
              have Iu : aT.length ≤ oV := XU.out
              have UF : Kd.C iZ _ (some pJ) aT.length aT := Qz.out
              have Ux := UZ (P := Tryz.prog) 47 78 .i64 Tryz.underlying47 PQ (some pJ) aT.length oV bz (od) Ty Iu
              have Oc := Kd.C_take (m := (bz : Int).toNat) UF (by omega)
              have Oa : dZ.length = (bz : Int).toNat := (by rw [I6.out, List.length_take]; omega)
              rw [← I6.out] at Oc
              rw [← Oa] at Ux
              have I9 := ak Oc
              have aA4 := ak (show dZ.length ≤ oV from by omega)
              clear Oc UF Iu PQ WN
              have aU2 := ak Oa
              clear Oa
              replace Ty := eq_true Ty
              go_wp2
              go_loopg [58] JW (fun kq v58 w' => ∃ (fD : Int), v58 = .int .i64 fD ∧ Aside0 (ab.l1 kq aT (aT.length : Int) bz dZ (dZ.length : Int) fD aI ax cn cW aT ((aY aT bz).f0) ((aY aT bz).f1) = some r) ∧ Aside0 (kq ≤ JW) ∧ Aside0 (w'.heap[ly]? = some (.cells #[.int .u32 aI, .string ax, (.slice uw cn.length sy), (.slice n7 cW.length nY), (.slice (some pJ) aT.length oV)] 49 (0, 0))) ∧ Aside0 (w'.heap[td]? = some (.cells #[.string ((aY aT bz).f0), .string ((aY aT bz).f1)] 78 (0, 0))) ∧ Aside0 (Below w.heap.size w w'))
              case atStart => exact ⟨(0), rf, H', ⟨Nat.le_refl _⟩, ⟨by (with_reducible repeat (first | refine ag ?_ _ | refine aj ?_ | refine ah ?_ _)); exact an.out⟩, ⟨by (with_reducible repeat (first | refine ag ?_ _ | refine aj ?_ | refine ah ?_ _)); exact cS.out⟩, ⟨bl⟩⟩
              case round =>
               clear H'
               obtain ⟨fD, rfl, HA, GL, an, cS, HB⟩ := hrel
               cases gk with
               | zero => exact absurd HA.out (by simp [ab.l1])
               | succ k4 =>
                have H := HA.out
                clear HA
                simp only [ab.l1] at H
                by_cases IV : fD < (dZ.length : Int)
                ·rw [if_pos IV] at H
                 have XJ := decide_eq_true IV
                 clear IV
                 by_cases Ql : 0 ≤ fD
                 ·rw [if_pos Ql] at H
                  have aO0 := decide_eq_true Ql
                  clear Ql
                  by_cases Qk : fD < (dZ.length : Int)
                  ·rw [if_pos Qk] at H
                   have aN9 := decide_eq_true Qk
                   clear Qk
                   by_cases yD : ((((aY dZ fD).f0).toList) == ((aY aT bz).f0).toList && ((((aY dZ fD).f1).toList) == ((aY aT bz).f1).toList)) = true
                   ·rw [if_pos yD] at H
                    have XI : ((((aY dZ fD).f0).toList) == ((aY aT bz).f0).toList && ((((aY dZ fD).f1).toList) == ((aY aT bz).f1).toList)) = true := yD
                    (try (have XH : decide ((((aY dZ fD).f0).toList) = ((aY aT bz).f0).toList && ((((aY dZ fD).f1).toList) == ((aY aT bz).f1).toList)) = true := by simpa using yD))
                    (try (have XG : ((((aY dZ fD).f0).toList) == ((aY aT bz).f0).toList && ((((aY dZ fD).f1).toList) == ((aY aT bz).f1).toList)) = true := by simpa using yD))
                    clear yD
                    obtain rfl := Option.some.inj H
                    have tC : 0 ≤ (fD : Int) := od
                    have tt : fD < (dZ.length : Int) := od
                    obtain ⟨CV, FW, rK, rJ⟩ := wQ I9.out fD tC tt
                    obtain rfl : pJ = CV := (by injection FW)
                    replace rK := hc HB rK
                    replace rJ := hc HB rJ
                    replace tC := eq_true tC
                    replace tt := eq_true tt
                    go_wp2_with (first | ((with_reducible refine af (N := 6) rfl ?_); (try (refine bL (by rfl) ?_; dsimp only)); refine bE (N := 6) (cs := #[.string (⟨#[]⟩ : ByteArray), .string (⟨#[]⟩ : ByteArray)]) (t := 78) ?_; intro wy hg w41 hbox hb; have nR := ak (hbox); have SR := ak (gl hg : w.heap.size ≤ wy); have SW := ak (gl hg : w.heap.size ≤ wy); replace HB := bs hb; have mr := ak (nl an hg); have sC := ak (ng an hg); replace an := bm an hb; have mq := ak (nl cS hg); have sB := ak (ng cS hg); replace cS := bm cS hb; clear hb hbox hg; have WS := sC.out; have WO := mr.out; have aJ4 := sB.out; have aH3 := mq.out; have RV := cf nR 0; have RU := cf nR 1; have Rx := J nR.out 0; have Rv := J nR.out 1; have aJ3 := kC.out; have aH2 := fT.out; have aw6 := cf cS 0; have aw5 := cf cS 1; have am1 := J cS.out 0; have am0 := J cS.out 1))
                    go_ret
                    exact ⟨rg, bl⟩
                   ·rw [if_neg yD] at H
                    have XI : ((((aY dZ fD).f0).toList) == ((aY aT bz).f0).toList && ((((aY dZ fD).f1).toList) == ((aY aT bz).f1).toList)) = false := by simpa using yD
                    (try (have XH : decide ((((aY dZ fD).f0).toList) = ((aY aT bz).f0).toList && ((((aY dZ fD).f1).toList) == ((aY aT bz).f1).toList)) = false := by simpa using yD))
                    (try (have XG : ((((aY dZ fD).f0).toList) == ((aY aT bz).f0).toList && ((((aY dZ fD).f1).toList) == ((aY aT bz).f1).toList)) = false := by simpa using yD))
                    (try (have aN8 : ¬ ((((aY dZ fD).f0).toList) = ((aY aT bz).f0).toList && ((((aY dZ fD).f1).toList) == ((aY aT bz).f1).toList)) := by simpa using yD))
                    clear yD
                    have H' := ak H; clear H
                    have tC : 0 ≤ (fD : Int) := od
                    have tt : fD < (dZ.length : Int) := od
                    obtain ⟨CV, FW, rK, rJ⟩ := wQ I9.out fD tC tt
                    obtain rfl : pJ = CV := (by injection FW)
                    replace rK := hc HB rK
                    replace rJ := hc HB rJ
                    replace tC := eq_true tC
                    replace tt := eq_true tt
                    go_wp2_with (first | ((with_reducible refine af (N := 6) rfl ?_); (try (refine bL (by rfl) ?_; dsimp only)); refine bE (N := 6) (cs := #[.string (⟨#[]⟩ : ByteArray), .string (⟨#[]⟩ : ByteArray)]) (t := 78) ?_; intro wy hg w47 hbox hb; have nR := ak (hbox); have SR := ak (gl hg : w.heap.size ≤ wy); have SW := ak (gl hg : w.heap.size ≤ wy); replace HB := bs hb; have mr := ak (nl an hg); have sC := ak (ng an hg); replace an := bm an hb; have mq := ak (nl cS hg); have sB := ak (ng cS hg); replace cS := bm cS hb; clear hb hbox hg; have aJ1 := sC.out; have aH0 := mr.out; have aJ0 := sB.out; have aG9 := mq.out; have aw2 := cf nR 0; have aw1 := cf nR 1; have al7 := J nR.out 0; have al6 := J nR.out 1; have aI9 := kC.out; have aG8 := fT.out; have aw0 := cf cS 0; have av9 := cf cS 1; have al5 := J cS.out 0; have al4 := J cS.out 1))
                    go_roundg k4
                    case measure => have := mS.out; have := kO.out; have := KG.out; have := GL.out; omega
                    case rel => exact ⟨(wrap64 (fD + 1)), rf, H', ⟨by have := mS.out; have := kO.out; have := KG.out; have := GL.out; omega⟩, ⟨by (with_reducible repeat (first | refine ag ?_ _ | refine aj ?_ | refine ah ?_ _)); refine dr ?_ mr.out _; (with_reducible repeat (first | refine ag ?_ _ | refine aj ?_ | refine ah ?_ _)); refine dr ?_ mr.out _; (with_reducible repeat (first | refine ag ?_ _ | refine aj ?_ | refine ah ?_ _)); exact an.out⟩, ⟨by (with_reducible repeat (first | refine ag ?_ _ | refine aj ?_ | refine ah ?_ _)); refine dr ?_ mq.out _; (with_reducible repeat (first | refine ag ?_ _ | refine aj ?_ | refine ah ?_ _)); refine dr ?_ mq.out _; (with_reducible repeat (first | refine ag ?_ _ | refine aj ?_ | refine ah ?_ _)); exact cS.out⟩, ⟨bl⟩⟩
                  ·rw [if_neg Qk] at H
                   exact absurd H (by simp)
                 ·rw [if_neg Ql] at H
                  exact absurd H (by simp)
                ·rw [if_neg IV] at H
                 have XJ := decide_eq_false IV
                 clear IV
                 have H' := ak H; clear H
                 go_wp2
                 go_roundg k4
                 case measure => have := mS.out; have := kO.out; have := KG.out; have := GL.out; omega
                 case rel => exact ⟨(wrap64 (bz + 1)), rf, H', ⟨by have := mS.out; have := kO.out; have := KG.out; have := GL.out; omega⟩, ⟨by (with_reducible repeat (first | refine ag ?_ _ | refine aj ?_ | refine ah ?_ _)); exact an.out⟩, ⟨bl⟩⟩
             ·rw [if_neg ML] at H
              exact absurd H (by simp)
            ·rw [if_neg MM] at H
             exact absurd H (by simp)
        ·rw [if_neg qG] at H
         exact absurd H (by simp)
       ·rw [if_neg u7] at H
        exact absurd H (by simp)
      ·rw [if_neg hG] at H
       have zo := decide_eq_false hG
       clear hG
       have H' := ak H; clear H
       have RT := cf an 0
       have RS := cf an 1
       have av8 := cf an 2
       have av7 := cf an 3
       have av6 := cf an 4
       have Ru := J an.out 0
       have Rt := J an.out 1
       have al3 := J an.out 2
       have al2 := J an.out 3
       have al1 := J an.out 4
       go_wp2
       go_loopg [70] k2 (fun kq v70 w' => ∃ (eC : Int), v70 = .int .i64 eC ∧ Aside0 (ab.l2 kq cn (cn.length : Int) eC aI ax cn cW aT = some r) ∧ Aside0 (kq ≤ k2) ∧ Aside0 (w'.heap[ly]? = some (.cells #[.int .u32 aI, .string ax, (.slice uw cn.length sy), (.slice n7 cW.length nY), (.slice yS aT.length oV)] 49 (0, 0))) ∧ Aside0 (Below w.heap.size w w'))
       case atStart => exact ⟨(0), rf, H', ⟨Nat.le_refl _⟩, ⟨by (with_reducible repeat (first | refine ag ?_ _ | refine aj ?_ | refine ah ?_ _)); exact an.out⟩, ⟨bl⟩⟩
       case round =>
        clear H'
        obtain ⟨eC, rfl, HA, D1, an, HB⟩ := hrel
        cases gk with
        | zero => exact absurd HA.out (by simp [ab.l2])
        | succ k3 =>
         have H := HA.out
         clear HA
         simp only [ab.l2] at H
         by_cases IT : eC < (cn.length : Int)
         ·rw [if_pos IT] at H
          have XD := decide_eq_true IT
          clear IT
          by_cases Qj : 0 ≤ eC
          ·rw [if_pos Qj] at H
           have aN7 := decide_eq_true Qj
           clear Qj
           by_cases Qi : eC < (cn.length : Int)
           ·rw [if_pos Qi] at H
            have aN6 := decide_eq_true Qi
            clear Qi
            have O8 := ak H
            clear H
            have EW : 0 ≤ (eC : Int) := od
            have EN : eC < (cn.length : Int) := od
            obtain ⟨SD, UT, DB⟩ := Kd.at_int QA.out eC EW EN
            cases UT
            replace DB := hc HB DB
            replace EW := eq_true EW
            replace EN := eq_true EN
            go_upto_region 18 with (fail)
            go_cut [83] (fun v83 wc => ∃ (kq : Nat) (AD : Bool), v83 = .bool AD ∧ Aside0 (ab.j5 kq eC (rd cn eC) cn (cn.length : Int) eC AD aI ax cn cW aT = some r) ∧ Aside0 (kq ≤ k3) ∧ Aside0 (wc.heap[ly]? = some (.cells #[.int .u32 aI, .string ax, (.slice (some SD) cn.length sy), (.slice n7 cW.length nY), (.slice yS aT.length oV)] 49 (0, 0))) ∧ Aside0 (Below w.heap.size w wc))
            case first =>
             have H := O8.out
             clear O8
             by_cases IS : (rd cn eC) < 0
             ·rw [if_pos IS] at H
              have BN := decide_eq_true IS
              clear IS
              (first | rw [BN] | (simp only [gO, kj]; rw [BN]) | skip)
              have H' := ak H; clear H
              go_wp2
              go_meet
              case rel => exact ⟨_, (true), rf, H', ⟨by have := mS.out; have := kO.out; have := D1.out; first | omega | exact Nat.le_refl _⟩, ⟨by (with_reducible repeat (first | refine ag ?_ _ | refine aj ?_ | refine ah ?_ _)); exact an.out⟩, ⟨bl⟩⟩
             ·rw [if_neg IS] at H
              have BN := decide_eq_false IS
              clear IS
              (first | rw [BN] | (simp only [gO, kj]; rw [BN]) | skip)
              have H' := ak H; clear H
              have at0 := cf an 0
              have as9 := cf an 1
              have as8 := cf an 2
              have as7 := cf an 3
              have as6 := cf an 4
              have ai8 := J an.out 0
              have ai7 := J an.out 1
              have ai6 := J an.out 2
              have ai5 := J an.out 3
              have ai4 := J an.out 4
              go_wp2
              go_meet
              case rel => exact ⟨_, (decide ((rd cn eC) > (aT.length : Int))), rf, H', ⟨by have := mS.out; have := kO.out; have := D1.out; first | omega | exact Nat.le_refl _⟩, ⟨by (with_reducible repeat (first | refine ag ?_ _ | refine aj ?_ | refine ah ?_ _)); exact an.out⟩, ⟨bl⟩⟩
            case rest =>
             clear O8
             obtain ⟨kq, AD, rfl, HA, KF, an, HB⟩ := hcut
             cases kq with
             | zero => exact absurd HA.out (by simp [ab.j5])
             | succ sw =>
              have H := HA.out
              clear HA
              simp only [ab.j5] at H
              by_cases Qh : AD = true
              ·subst Qh
               replace H : (some false) = some r := by rw [if_pos rfl] at H; exact H
               obtain rfl := Option.some.inj H
               go_wp2
               go_ret
               exact ⟨rg, bl⟩
              ·replace Qh := Bool.eq_false_iff.mpr Qh
               subst Qh
               replace H : (if (rd cn eC) = 0 then ((a8.f sw cW eC).bind fun mc => (if mc = 1 then (ab.l2 sw cn (cn.length : Int) (wrap64 (eC + 1)) aI ax cn cW aT) else (some false))) else ((a8.f sw cW eC).bind fun mb => (if mb = 0 then (ab.l2 sw cn (cn.length : Int) (wrap64 (eC + 1)) aI ax cn cW aT) else (some false)))) = some r := by rw [if_neg (show ¬ (false = true) by decide)] at H; exact H
               by_cases Ga : (rd cn eC) = 0
               ·rw [if_pos Ga] at H
                have XC : ((rd cn eC) == 0) = true := beq_iff_eq.mpr Ga
                have XB : ((rd cn eC) != 0) = false := bne_eq_false_iff_eq.mpr Ga
                clear Ga
                replace H := Option.bind_eq_some_iff.mp H
                obtain ⟨mc, Wl, H⟩ := H
                replace H : (if mc = 1 then (ab.l2 sw cn (cn.length : Int) (wrap64 (eC + 1)) aI ax cn cW aT) else (some false)) = some r := H
                have Y9 := ak Wl
                clear Wl
                by_cases F9 : mc = 1
                ·rw [if_pos F9] at H
                 have XA : (mc == 1) = true := beq_iff_eq.mpr F9
                 have Xz : (mc != 1) = false := bne_eq_false_iff_eq.mpr F9
                 clear F9
                 have H' := ak H; clear H
                 have as5 := cf an 0
                 have as4 := cf an 1
                 have as3 := cf an 2
                 have as2 := cf an 3
                 have as1 := cf an 4
                 have ai3 := J an.out 0
                 have ai2 := J an.out 1
                 have ai1 := J an.out 2
                 have ai0 := J an.out 3
                 have ah9 := J an.out 4
                 go_wp2_with (first | ((with_reducible refine au (f := 102) rfl ?_); refine gC (some 89) Tryz.func102 #[.slice n7 cW.length nY, .int .i64 eC] ?_; (with_reducible refine (a8.calls sw _ _ cW eC mc _ ?side1 ?side2 Y9.out).mono ?_); (case side1 => repeat (first | exact (Kd.C_below xx.out HB.out) | (with_reducible refine Kd.C_alloc ?_ _) | (with_reducible refine Kd.C_drewN ?_ _) | (with_reducible refine Kd.C_drew ?_))); (case side2 => exact Ep.out); rintro e w' ⟨rfl, ⟨nd, rfl⟩⟩; refine ⟨_, rfl, ?_⟩))
                 go_roundg sw
                 case measure => have := mS.out; have := kO.out; have := D1.out; have := KF.out; omega
                 case rel => exact ⟨(wrap64 (eC + 1)), rf, H', ⟨by have := mS.out; have := kO.out; have := D1.out; have := KF.out; omega⟩, ⟨by (with_reducible repeat (first | refine ag ?_ _ | refine aj ?_ | refine ah ?_ _)); exact an.out⟩, ⟨bl⟩⟩
                ·rw [if_neg F9] at H
                 have XA : (mc == 1) = false := beq_eq_false_iff_ne.mpr F9
                 have Xz : (mc != 1) = true := bne_iff_ne.mpr F9
                 obtain rfl := Option.some.inj H
                 have as0 := cf an 0
                 have ar9 := cf an 1
                 have ar8 := cf an 2
                 have ar7 := cf an 3
                 have ar6 := cf an 4
                 have ah8 := J an.out 0
                 have ah7 := J an.out 1
                 have ah6 := J an.out 2
                 have ah5 := J an.out 3
                 have ah4 := J an.out 4
                 go_wp2_with (first | ((with_reducible refine au (f := 102) rfl ?_); refine gC (some 89) Tryz.func102 #[.slice n7 cW.length nY, .int .i64 eC] ?_; (with_reducible refine (a8.calls sw _ _ cW eC mc _ ?side1 ?side2 Y9.out).mono ?_); (case side1 => repeat (first | exact (Kd.C_below xx.out HB.out) | (with_reducible refine Kd.C_alloc ?_ _) | (with_reducible refine Kd.C_drewN ?_ _) | (with_reducible refine Kd.C_drew ?_))); (case side2 => exact Ep.out); rintro e w' ⟨rfl, ⟨nd, rfl⟩⟩; refine ⟨_, rfl, ?_⟩))
                 go_ret
                 exact ⟨rg, bl⟩
               ·rw [if_neg Ga] at H
                have XC : ((rd cn eC) == 0) = false := beq_eq_false_iff_ne.mpr Ga
                have XB : ((rd cn eC) != 0) = true := bne_iff_ne.mpr Ga
                replace H := Option.bind_eq_some_iff.mp H
                obtain ⟨mb, Wk, H⟩ := H
                replace H : (if mb = 0 then (ab.l2 sw cn (cn.length : Int) (wrap64 (eC + 1)) aI ax cn cW aT) else (some false)) = some r := H
                have Y8 := ak Wk
                clear Wk
                by_cases F8 : mb = 0
                ·rw [if_pos F8] at H
                 have Xy : (mb == 0) = true := beq_iff_eq.mpr F8
                 have Xx : (mb != 0) = false := bne_eq_false_iff_eq.mpr F8
                 clear F8
                 have H' := ak H; clear H
                 have ar5 := cf an 0
                 have ar4 := cf an 1
                 have ar3 := cf an 2
                 have ar2 := cf an 3
                 have ar1 := cf an 4
                 have ah3 := J an.out 0
                 have ah2 := J an.out 1
                 have ah1 := J an.out 2
                 have ah0 := J an.out 3
                 have ag9 := J an.out 4
                 go_wp2_with (first | ((with_reducible refine au (f := 102) rfl ?_); refine gC (some 89) Tryz.func102 #[.slice n7 cW.length nY, .int .i64 eC] ?_; (with_reducible refine (a8.calls sw _ _ cW eC mb _ ?side1 ?side2 Y8.out).mono ?_); (case side1 => repeat (first | exact (Kd.C_below xx.out HB.out) | (with_reducible refine Kd.C_alloc ?_ _) | (with_reducible refine Kd.C_drewN ?_ _) | (with_reducible refine Kd.C_drew ?_))); (case side2 => exact Ep.out); rintro e w' ⟨rfl, ⟨nd, rfl⟩⟩; refine ⟨_, rfl, ?_⟩))
                 go_roundg sw
                 case measure => have := mS.out; have := kO.out; have := D1.out; have := KF.out; omega
                 case rel => exact ⟨(wrap64 (eC + 1)), rf, H', ⟨by have := mS.out; have := kO.out; have := D1.out; have := KF.out; omega⟩, ⟨by (with_reducible repeat (first | refine ag ?_ _ | refine aj ?_ | refine ah ?_ _)); exact an.out⟩, ⟨bl⟩⟩
                ·rw [if_neg F8] at H
                 have Xy : (mb == 0) = false := beq_eq_false_iff_ne.mpr F8
                 have Xx : (mb != 0) = true := bne_iff_ne.mpr F8
                 obtain rfl := Option.some.inj H
                 have ar0 := cf an 0
                 have aq9 := cf an 1
                 have aq8 := cf an 2
                 have aq7 := cf an 3
                 have aq6 := cf an 4
                 have ag8 := J an.out 0
                 have ag7 := J an.out 1
                 have ag6 := J an.out 2
                 have ag5 := J an.out 3
                 have ag4 := J an.out 4
                 go_wp2_with (first | ((with_reducible refine au (f := 102) rfl ?_); refine gC (some 89) Tryz.func102 #[.slice n7 cW.length nY, .int .i64 eC] ?_; (with_reducible refine (a8.calls sw _ _ cW eC mb _ ?side1 ?side2 Y8.out).mono ?_); (case side1 => repeat (first | exact (Kd.C_below xx.out HB.out) | (with_reducible refine Kd.C_alloc ?_ _) | (with_reducible refine Kd.C_drewN ?_ _) | (with_reducible refine Kd.C_drew ?_))); (case side2 => exact Ep.out); rintro e w' ⟨rfl, ⟨nd, rfl⟩⟩; refine ⟨_, rfl, ?_⟩))
                 go_ret
                 exact ⟨rg, bl⟩
           ·rw [if_neg Qi] at H
            exact absurd H (by simp)
          ·rw [if_neg Qj] at H
           exact absurd H (by simp)
         ·rw [if_neg IT] at H
          have XD := decide_eq_false IT
          clear IT
          have H' := ak H; clear H
          have aq5 := cf an 0
          have aq4 := cf an 1
          have aq3 := cf an 2
          have aq2 := cf an 3
          have aq1 := cf an 4
          have ag3 := J an.out 0
          have ag2 := J an.out 1
          have ag1 := J an.out 2
          have ag0 := J an.out 3
          have af9 := J an.out 4
          go_wp2
          go_loopg [96] k3 (fun kq v96 w' => ∃ (ki : Int), v96 = .int .i64 ki ∧ Aside0 (ab.l3 kq cW (cW.length : Int) ki = some r) ∧ Aside0 (kq ≤ k3) ∧ Aside0 (w'.heap[ly]? = some (.cells #[.int .u32 aI, .string ax, (.slice uw cn.length sy), (.slice n7 cW.length nY), (.slice yS aT.length oV)] 49 (0, 0))) ∧ Aside0 (Below w.heap.size w w'))
          case atStart => exact ⟨(0), rf, H', ⟨Nat.le_refl _⟩, ⟨by (with_reducible repeat (first | refine ag ?_ _ | refine aj ?_ | refine ah ?_ _)); exact an.out⟩, ⟨bl⟩⟩
          case round =>
           clear H'
           obtain ⟨ki, rfl, HA, GL, an, HB⟩ := hrel
           cases gk with
           | zero => exact absurd HA.out (by simp [ab.l3])
           | succ k4 =>
            have H := HA.out
            clear HA
            simp only [ab.l3] at H
            by_cases IQ : ki < (cW.length : Int)
            ·rw [if_pos IQ] at H
             have Xw := decide_eq_true IQ
             clear IQ
             by_cases Qg : 0 ≤ ki
             ·rw [if_pos Qg] at H
              have aN5 := decide_eq_true Qg
              clear Qg
              by_cases Qf : ki < (cW.length : Int)
              ·rw [if_pos Qf] at H
               have aN4 := decide_eq_true Qf
               clear Qf
               by_cases IP : (rd cW ki) < 0
               ·rw [if_pos IP] at H
                have Xv := decide_eq_true IP
                clear IP
                obtain rfl := Option.some.inj H
                have nk : 0 ≤ (ki : Int) := od
                have nf : ki < (cW.length : Int) := od
                obtain ⟨I4, yy, lN⟩ := Kd.at_int xx.out ki nk nf
                cases yy
                replace lN := hc HB lN
                replace nk := eq_true nk
                replace nf := eq_true nf
                go_wp2
                go_ret
                exact ⟨rg, bl⟩
               ·rw [if_neg IP] at H
                have Xv := decide_eq_false IP
                clear IP
                by_cases IN : (rd cW ki) > 63
                ·rw [if_pos IN] at H
                 have Xu := decide_eq_true IN
                 clear IN
                 obtain rfl := Option.some.inj H
                 have nk : 0 ≤ (ki : Int) := od
                 have nf : ki < (cW.length : Int) := od
                 obtain ⟨I4, yy, lN⟩ := Kd.at_int xx.out ki nk nf
                 cases yy
                 replace lN := hc HB lN
                 replace nk := eq_true nk
                 replace nf := eq_true nf
                 go_wp2
                 go_ret
                 exact ⟨rg, bl⟩
                ·rw [if_neg IN] at H
                 have Xu := decide_eq_false IN
                 clear IN
                 have H' := ak H; clear H
                 have nk : 0 ≤ (ki : Int) := od
                 have nf : ki < (cW.length : Int) := od
                 obtain ⟨I4, yy, lN⟩ := Kd.at_int xx.out ki nk nf
                 cases yy
                 replace lN := hc HB lN
                 replace nk := eq_true nk
                 replace nf := eq_true nf
                 go_wp2
                 go_roundg k4
                 case measure => have := mS.out; have := kO.out; have := D1.out; have := GL.out; omega
                 case rel => exact ⟨(wrap64 (ki + 1)), rf, H', ⟨by have := mS.out; have := kO.out; have := D1.out; have := GL.out; omega⟩, ⟨by (with_reducible repeat (first | refine ag ?_ _ | refine aj ?_ | refine ah ?_ _)); exact an.out⟩, ⟨bl⟩⟩
              ·rw [if_neg Qf] at H
               exact absurd H (by simp)
             ·rw [if_neg Qg] at H
              exact absurd H (by simp)
            ·rw [if_neg IQ] at H
             have Xw := decide_eq_false IQ
             clear IQ
             obtain rfl := Option.some.inj H
             go_wp2
             go_ret
             exact ⟨rg, bl⟩
end
section
def xv (b : Bk) (r : Bool) : Prop := ∃ k, ab.f k b.addr b.aff b.slots b.free (b.attrs.map vc) = some r
theorem sm.R {W : World} {b : Bk} {A A' : Option Addr} {c c' : Nat} (h : BkR W b A c A' c') : sm W (.agg (eY b.addr b.aff b.slots (.slice A b.free.length c) (.slice A' b.attrs.length c')).toArray) b := ⟨A, c, A', c', rfl, h⟩
theorem Ba (b : Bk) (r : Bool) (h : xv b r) (M : List S78) (hM : M = b.attrs.map vc) (As Af Aa : Option Addr) (cs cf ca : Nat) (w : World)
  (h1 : Kd.C (Kd.int .i64) w As b.slots.length b.slots ∧ b.slots.length ≤ cs) (h2 : Kd.C (Kd.int .i64) w Af b.free.length b.free ∧ b.free.length ≤ cf) (h3 : Kd.C iZ w Aa M.length M ∧ M.length ≤ ca) :
  Calls Tryz.prog 68 #[.agg #[.int .u32 b.addr, .string b.aff, .slice As b.slots.length cs, .slice Af b.free.length cf, .slice Aa M.length ca]] w fun e w' => e = .returned (.bool r) ∧ Below w.heap.size w w' := by
 obtain ⟨k, hk⟩ := h
 subst hM
 exact ab.calls k _ _ As cs _ Af cf _ Aa ca _ r w h1.1 h1.2 h2.1 h2.2 h3.1 h3.2 hk
theorem Tq (b : Bk) (hk : BkOk b) (hp : RightP b) (hsl : b.slots.length = 64) (t : ByteArray) (ht : strOfNums (nO b) = t) (M : List S78) (hM : M = b.attrs.map vc) (As Af Aa : Option Addr) (cs cf ca : Nat) (w : World)
  (h1 : Kd.C (Kd.int .i64) w As b.slots.length b.slots ∧ b.slots.length ≤ cs) (h2 : Kd.C (Kd.int .i64) w Af b.free.length b.free ∧ b.free.length ≤ cf) (h3 : Kd.C iZ w Aa M.length M ∧ M.length ≤ ca) :
  Calls Tryz.prog 69 #[.agg #[.int .u32 b.addr, .string b.aff, .slice As b.slots.length cs, .slice Af b.free.length cf, .slice Aa M.length ca]] w fun e w' => e = .returned (.string t) ∧ Below w.heap.size w w' := by
 subst hM
 rw [← ht]
 exact Ny b hk hp hsl As Af Aa cs cf ca w h1.1 h2.1 h3.1
end
section
theorem tr (l : List Int) (i : Nat) (h : i < l.length) : rd l (i : Int) = l[i] := by simp [rd, List.getD, h]
theorem zm (l : List Int) (hl : l.length ≤ 1000) (x : Int) (k : Nat) (hk : l.length < k) : a8.f k l x = some ((l.count x : Nat) : Int) := by
 have key : ∀ (d k i c : Nat), i + d = l.length → d < k → c ≤ i → a8.l0 k x (c : Int) l (l.length : Int) (i : Int) = some ((c + (l.drop i).count x : Nat) : Int) := by
  intro d
  induction d with
  | zero =>
   intro k i c hi hk hc
   obtain ⟨k, rfl⟩ : ∃ m, k = m + 1 := ⟨k - 1, by omega⟩
   rw [a8.l0, if_neg (by omega), List.drop_of_length_le (by omega)]
   simp
  | succ d ih =>
   intro k i c hi hk hc
   obtain ⟨k, rfl⟩ : ∃ m, k = m + 1 := ⟨k - 1, by omega⟩
   have hil : i < l.length := by omega
   rw [a8.l0, if_pos (by omega), if_pos (by omega), if_pos (by omega), tr l i hil, bB ((i : Int) + 1) (by omega) (by omega), bB ((c : Int) + 1) (by omega) (by omega), List.drop_eq_getElem_cons hil, List.count_cons]
   by_cases h : l[i] = x
   ·rw [if_pos h, show (c : Int) + 1 = ((c + 1 : Nat) : Int) by omega, show (i : Int) + 1 = ((i + 1 : Nat) : Int) by omega, ih k (i + 1) (c + 1) (by omega) (by omega) (by omega)]
    simp [h]
    omega
   ·rw [if_neg h, show (i : Int) + 1 = ((i + 1 : Nat) : Int) by omega, ih k (i + 1) c (by omega) (by omega) (by omega)]
    simp [h]
 unfold a8.f
 rw [show (0 : Int) = ((0 : Nat) : Int) from rfl, key l.length k 0 0 (by omega) hk (by omega)]
 simp
theorem Q6 (a : At) (h : iD a = true) (k : Nat) (hk : 65 ≤ k) : ff.f k a.f0 a.f1 = some true := by
 unfold iD at h
 rw [Bool.and_eq_true] at h
 have h0 := fq h.1
 have h1 := fq h.2
 unfold ff.f
 rw [sN a.f0 (by omega) k (by omega), Option.bind_some, if_pos h.1, sN a.f1 (by omega) k (by omega), Option.bind_some, h.2]
theorem LH (s : ByteArray) (h : mg s = true) (k : Nat) (hk : 65 ≤ k) : dK.f k s = some true := by
 unfold dK.f
 by_cases h0 : s.toList = []
 ·rw [if_pos h0]
 ·unfold mg at h
  simp only [h0, decide_false, Bool.false_or] at h
  have h1 := fq h
  rw [if_neg h0, sN s (by omega) k (by omega), Option.bind_some, h]
section
variable (addr : Int) (aff : ByteArray) (sl fr : List Int) (M : List S78)
theorem NB (hf : ∀ x ∈ fr, 0 ≤ x ∧ x ≤ 63) (hl : fr.length ≤ 1000) : ∀ (d k i : Nat), i + d = fr.length → d < k → ab.l3 k fr (fr.length : Int) (i : Int) = some true := by
 intro d
 induction d with
 | zero =>
  intro k i hi hk
  obtain ⟨k, rfl⟩ : ∃ m, k = m + 1 := ⟨k - 1, by omega⟩
  rw [ab.l3, if_neg (by omega)]
 | succ d ih =>
  intro k i hi hk
  obtain ⟨k, rfl⟩ : ∃ m, k = m + 1 := ⟨k - 1, by omega⟩
  have hil : i < fr.length := by omega
  have hx := hf _ (List.getElem_mem hil)
  rw [ab.l3, if_pos (by omega), if_pos (by omega), if_pos (by omega), tr fr i hil, if_neg (by omega), if_neg (by omega), bB ((i : Int) + 1) (by omega) (by omega), show (i : Int) + 1 = ((i + 1 : Nat) : Int) by omega]
  exact ih k (i + 1) (by omega) (by omega)
theorem NC (hf : ∀ x ∈ fr, 0 ≤ x ∧ x ≤ 63) (hl : fr.length ≤ 1000) (hsl : sl.length ≤ 1000) (hs : ∀ x ∈ sl, 0 ≤ x ∧ x ≤ (M.length : Int))
  (hc : ∀ (i : Nat) (h : i < sl.length), fr.count (i : Int) = if sl[i] = 0 then 1 else 0) : ∀ (d k i : Nat), i + d = sl.length → 2 * d + fr.length + 10 < k → ab.l2 k sl (sl.length : Int) (i : Int) addr aff sl fr M = some true := by
 intro d
 induction d with
 | zero =>
  intro k i hi hk
  obtain ⟨k, rfl⟩ : ∃ m, k = m + 1 := ⟨k - 1, by omega⟩
  rw [ab.l2, if_neg (by omega)]
  exact NB fr hf hl fr.length k 0 (by omega) (by omega)
 | succ d ih =>
  intro k i hi hk
  obtain ⟨k, rfl⟩ : ∃ m, k = m + 2 := ⟨k - 2, by omega⟩
  have hil : i < sl.length := by omega
  have hx := hs _ (List.getElem_mem hil)
  have hci := hc i hil
  rw [ab.l2, if_pos (by omega), if_pos (by omega), if_pos (by omega), tr sl i hil, if_neg (by omega), ab.j5, if_neg (by rw [decide_eq_true_eq]; omega), zm fr hl _ k (by omega), bB ((i : Int) + 1) (by omega) (by omega), show (i : Int) + 1 = ((i + 1 : Nat) : Int) by omega, hci]
  have e := ih k (i + 1) (by omega) (by omega)
  by_cases h0 : sl[i] = 0
  ·rw [if_pos h0, if_pos h0, Option.bind_some, if_pos (by rfl)]
   exact e
  ·rw [if_neg h0, if_neg h0, Option.bind_some, if_pos (by rfl)]
   exact e
theorem ND (i : Nat) (hi : i ≤ M.length) (hM : M.length ≤ 64) (f0 f1 : ByteArray) (hn : ∀ a ∈ M.take i, (a.f0.toList == f0.toList && a.f1.toList == f1.toList) = false) : ∀ (d k q : Nat), q + d = i →
  ab.l1 (k + d + 1) M (M.length : Int) (i : Int) (M.take i) ((M.take i).length : Int) (q : Int) addr aff sl fr M f0 f1 = ab.l0 k M (M.length : Int) ((i + 1 : Nat) : Int) addr aff sl fr M := by
 have hlen : (M.take i).length = i := by rw [List.length_take]; omega
 intro d
 induction d with
 | zero =>
  intro k q hq
  rw [ab.l1, if_neg (by omega), bB ((i : Int) + 1) (by omega) (by omega), show (i : Int) + 1 = ((i + 1 : Nat) : Int) by omega]
 | succ d ih =>
  intro k q hq
  have hqi : q < (M.take i).length := by omega
  have hx := hn _ (List.getElem_mem hqi)
  have e : aY (M.take i) (q : Int) = (M.take i)[q] := by
   unfold aY
   rw [Int.toNat_natCast, List.getD, List.getElem?_eq_getElem hqi]
   rfl
  rw [show k + (d + 1) + 1 = (k + d + 1) + 1 by omega, ab.l1, if_pos (by omega), if_pos (by omega), if_pos (by omega), e, hx, if_neg (by decide), bB ((q : Int) + 1) (by omega) (by omega), show (q : Int) + 1 = ((q + 1 : Nat) : Int) by omega]
  exact ih k (q + 1) (by omega)
theorem NF (hf : ∀ x ∈ fr, 0 ≤ x ∧ x ≤ 63) (hl : fr.length ≤ 100) (hsl : sl.length ≤ 100) (hs : ∀ x ∈ sl, 0 ≤ x ∧ x ≤ (M.length : Int))
  (hc : ∀ (i : Nat) (h : i < sl.length), fr.count (i : Int) = if sl[i] = 0 then 1 else 0) (hM : M.length ≤ 64)
  (hm : ∀ (i : Nat) (h : i < M.length), iD ⟨M[i].f0, M[i].f1⟩ = true) (hu : ∀ i, i < M.length → sl.count ((i + 1 : Nat) : Int) ≠ 0)
  (hn : ∀ (i : Nat) (h : i < M.length), ∀ a ∈ M.take i, (a.f0.toList == M[i].f0.toList && a.f1.toList == M[i].f1.toList) = false) : ∀ (d k i : Nat), i + d = M.length → 70 * d + 500 < k → ab.l0 k M (M.length : Int) (i : Int) addr aff sl fr M = some true := by
 intro d
 induction d with
 | zero =>
  intro k i hi hk
  obtain ⟨k, rfl⟩ : ∃ m, k = m + 1 := ⟨k - 1, by omega⟩
  rw [ab.l0, if_neg (by omega)]
  exact NC addr aff sl fr M hf (by omega) (by omega) hs hc sl.length k 0 (by omega) (by omega)
 | succ d ih =>
  intro k i hi hk
  have hil : i < M.length := by omega
  obtain ⟨k, rfl⟩ : ∃ m, k = (m + i + 1) + 2 := ⟨k - i - 3, by omega⟩
  have e : aY M (i : Int) = M[i] := by simp [aY, List.getD, hil]
  have hmay := Q6 ⟨M[i].f0, M[i].f1⟩ (hm i hil) (k + i + 1 + 1) (by omega)
  have hcz : (((sl.count ((i + 1 : Nat) : Int) : Nat) : Int) == 0) = false := by
   rw [beq_eq_false_iff_ne]
   have := hu i hil
   omega
  rw [ab.l0, if_pos (by omega), if_pos (by omega), if_pos (by omega), e, hmay, Option.bind_some, if_pos rfl, bB ((i : Int) + 1) (by omega) (by omega), show (i : Int) + 1 = ((i + 1 : Nat) : Int) by omega, zm sl (by omega) _ _ (by omega), Option.bind_some, hcz, ab.j2, if_neg (by decide), if_pos (by omega), if_pos (by omega), Option.bind_some, Int.toNat_natCast]
  have e1 := ND addr aff sl fr M i (by omega) hM M[i].f0 M[i].f1 (hn i hil) i k 0 (by omega)
  rw [show ((0 : Nat) : Int) = 0 from rfl] at e1
  rw [e1]
  exact ih k (i + 1) (by omega) (by omega)
end
theorem yf {l : List Int} {x : Int} (h : x ∈ l) : l.count x ≠ 0 := by
 have := List.count_pos_iff.2 h
 omega
theorem Lt {b : Bk} (hk : BkOk b) (hp : RightP b) (hl : b.slots.length = 64) : xv b true := by
 have hfl := hp.free_len hl
 have hal := hp.na
 have hfree : ∀ (j : Nat) (h : j < b.free.length), (0 ≤ b.free[j] ∧ b.free[j] < 64) ∧ b.free[j] ∉ b.free.take j ∧ b.slots.getD (b.free[j]).toNat 0 = 0 := by
  intro j h
  have hb := hp.fr j h
  unfold lB at hb
  rw [tr b.free j h] at hb
  simp only [Bool.or_eq_false_iff, decide_eq_false_iff_not, bne_eq_false_iff_eq] at hb
  have := hk.f8 _ (List.getElem_mem h)
  exact ⟨⟨by omega, by omega⟩, hb.2.1, hb.2.2⟩
 have hnd : b.free.Nodup := by
  rw [List.Nodup, List.pairwise_iff_getElem]
  intro i j hi hj hij e
  exact (hfree j hj).2.1 (by rw [← e, List.mem_take_iff_getElem]; exact ⟨i, by omega, rfl⟩)
 have ZM : ∀ x ∈ b.free, 0 ≤ x ∧ x ≤ 63 := by
  intro x hx
  obtain ⟨j, hj, rfl⟩ := List.getElem_of_mem hx
  have := (hfree j hj).1
  omega
 have hcount : ∀ (i : Nat) (h : i < b.slots.length), b.free.count (i : Int) = if b.slots[i] = 0 then 1 else 0 := by
  intro i h
  have BH : b.free.count (i : Int) ≤ 1 := List.nodup_iff_count.1 hnd _
  by_cases h0 : b.slots[i] = 0
  ·rw [if_pos h0]
   by_cases hm : (i : Int) ∈ b.free
   ·have := yf hm
    omega
   ·exfalso
    have hz : (((List.range b.slots.length).filter (fun j => b.slots.getD j 0 == 0)).map (fun j : Nat => (j : Int))).length = b.free.length := by
     rw [List.length_map, ← hp.zc, ← List.countP_eq_length_filter]
     have e : b.slots = (List.range b.slots.length).map (fun j => b.slots.getD j 0) := by
      apply List.ext_getElem
      ·simp
      ·intro q h1 h2
       simp [List.getD, h1]
     conv => rhs; rw [e]
     rw [List.countP_map]
     rfl
    have h2 : ((i : Int) :: b.free).length ≤ (((List.range b.slots.length).filter (fun j => b.slots.getD j 0 == 0)).map (fun j : Nat => (j : Int))).length := by
     refine qP _ _ (List.nodup_cons.2 ⟨hm, hnd⟩) (fun x hx => ?_)
     rcases List.mem_cons.1 hx with rfl | hx
     ·exact List.mem_map.2 ⟨i, List.mem_filter.2 ⟨List.mem_range.2 h, by simp [List.getD, h, h0]⟩, rfl⟩
     ·obtain ⟨j, hj, rfl⟩ := List.getElem_of_mem hx
      have hq := hfree j hj
      exact List.mem_map.2 ⟨(b.free[j]).toNat, List.mem_filter.2 ⟨List.mem_range.2 (by omega), by rw [hq.2.2]; rfl⟩, by omega⟩
    rw [hz, List.length_cons] at h2
    omega
  ·rw [if_neg h0]
   refine List.count_eq_zero.2 (fun hm => h0 ?_)
   obtain ⟨j, hj, e⟩ := List.getElem_of_mem hm
   have hq := (hfree j hj).2.2
   rw [e, Int.toNat_natCast] at hq
   simpa [List.getD, h] using hq
 have hused : ∀ i, i < b.attrs.length → b.slots.count ((i + 1 : Nat) : Int) ≠ 0 := by
  intro i hi
  by_cases hm : ((i + 1 : Nat) : Int) ∈ b.slots
  ·exact yf hm
  ·exfalso
   have h2 : ((i : Int) :: iG (jG b.slots)).length ≤ ((List.range b.attrs.length).map (fun j : Nat => (j : Int))).length := by
    refine qP _ _ (List.nodup_cons.2 ⟨fun hx => hm ?_, zB _ 64⟩) (fun x hx => ?_)
    ·obtain ⟨q, hq, uV, ht⟩ := sv _ _ _ hx
     unfold jG at ht
     rw [om _ q uV, decide_eq_true_eq, List.mem_map] at ht
     obtain ⟨s, hs, he⟩ := ht
     have : s = ((i + 1 : Nat) : Int) := by omega
     exact this ▸ hs
    ·rcases List.mem_cons.1 hx with rfl | hx
     ·exact List.mem_map.2 ⟨i, List.mem_range.2 hi, rfl⟩
     ·obtain ⟨q, rfl, uV, ht⟩ := sv _ _ _ hx
      unfold jG at ht
      rw [om _ q uV, decide_eq_true_eq, List.mem_map] at ht
      obtain ⟨s, hs, he⟩ := ht
      have := hp.sa s hs
      exact List.mem_map.2 ⟨q, List.mem_range.2 (by omega), rfl⟩
   rw [List.length_cons, hp.used, List.length_map, List.length_range] at h2
   omega
 have hML : (b.attrs.map vc).length = b.attrs.length := List.length_map ..
 have hat : ∀ (i : Nat) (h : i < b.attrs.length), nI b.attrs i = b.attrs[i] := by
  intro i h
  simp [nI, mf, List.getD, h]
 refine ⟨6000, ?_⟩
 have h0 := hp.first
 unfold se at h0
 have hmod : Int.tmod b.addr 64 = 0 := by
  rw [Int.tmod_eq_emod_of_nonneg hk.a0]
  omega
 unfold ab.f
 rw [if_pos hmod, LH b.aff hp.owner 6000 (by omega), Option.bind_some, if_pos rfl, if_neg (by rw [hML]; omega), hl, show (((64 : Nat) : Int) != 64) = false from rfl, ab.j0, if_neg (by decide)]
 refine NF b.addr b.aff b.slots b.free (b.attrs.map vc) ZM (by omega) (by omega) (fun x hx => ⟨(hk.s8 x hx).1, by rw [hML]; exact hp.sa x hx⟩) hcount (by omega) ?_ ?_ ?_ b.attrs.length 5999 0 (by omega) (by omega)
 ·intro i h
  have h' : i < b.attrs.length := by omega
  have := hp.may i h'
  rw [hat i h'] at this
  simpa [vc] using this
 ·intro i h
  exact hused i (by omega)
 ·intro i h a ha
  have h' : i < b.attrs.length := by omega
  have h3 := hp.nd i h'
  rw [hat i h', List.any_eq_false] at h3
  rw [← List.map_take] at ha
  obtain ⟨c, hc, rfl⟩ := List.mem_map.1 ha
  have h4 := h3 c hc
  rw [Bool.eq_false_iff]
  intro he
  apply h4
  unfold sameAt
  simp only [List.getElem_map, vc, Bool.and_eq_true, beq_iff_eq] at he ⊢
  exact ⟨he.1.symm, he.2.symm⟩
end
section
theorem rj {l : List Int} (h : dC l) : bytesOf (strOfNums l) = l := by
 unfold bytesOf
 rw [strOfNums_data, List.map_map]
 conv => rhs; rw [← List.map_id l]
 apply List.map_congr_left
 intro x hx
 have := h x hx
 simp only [Function.comp, id]
 rw [show (UInt8.ofNat x.toNat).toNat = x.toNat % 256 from rfl]
 omega
theorem vv (s : ByteArray) : strOfNums (bytesOf s) = s := by
 apply ByteArray.ext
 apply Array.ext'
 rw [strOfNums_data]
 unfold bytesOf
 rw [List.map_map]
 conv => rhs; rw [← List.map_id s.data.toList]
 apply List.map_congr_left
 intro b _
 simp
theorem K1 {l : List Int} (h : dC l) : im (strOfNums l) = (l.length : Int) :: l := by
 unfold im
 rw [strOfNums_size, rj h]
theorem dF {l : List Int} {bad : Bool} {n : Int} (h : (aC l bad n).2.2 = false) : bad = false ∧ (((aC l bad n).1.length : Int) = n ∧ l = (aC l bad n).1 ++ (aC l bad n).2.1) := by
 unfold aC at h ⊢
 split
 ·rename_i hc
  obtain ⟨h1, h2, h3⟩ := hc
  refine ⟨h1, ?_, (List.take_append_drop _ _).symm⟩
  show ((l.take n.toNat).length : Int) = n
  rw [List.length_take]
  omega
 ·rename_i hc
  rw [if_neg hc] at h
  cases h
theorem pe {l : List Int} (h : dC l) (hl : (l.length : Int) = 1) : l = [((az l : Nat) : Int)] := by
 match l, hl with
 | [x], _ =>
  have := h x (by simp)
  have e : ((x.toNat : Nat) : Int) = x := by omega
  simp [az, e]
 | [], hl => simp at hl
 | _ :: _ :: _, hl => simp at hl; omega
theorem CT {l : List Int} (h : dC l) (hl : (l.length : Int) = 4) : lR (az l) = l := by
 match l, hl with
 | [a, b, c, d], _ =>
  have ha := h a (by simp)
  have hb := h b (by simp)
  have hc := h c (by simp)
  have hd := h d (by simp)
  obtain ⟨a, rfl⟩ : ∃ n : Nat, a = n := ⟨a.toNat, by omega⟩
  obtain ⟨b, rfl⟩ : ∃ n : Nat, b = n := ⟨b.toNat, by omega⟩
  obtain ⟨c, rfl⟩ : ∃ n : Nat, c = n := ⟨c.toNat, by omega⟩
  obtain ⟨d, rfl⟩ : ∃ n : Nat, d = n := ⟨d.toNat, by omega⟩
  have e : az [(a : Int), b, c, d] = ((a * 256 + b) * 256 + c) * 256 + d := by simp [az]
  rw [e]
  unfold lR
  congr 1
  ·omega
  ·congr 1
   ·omega
   ·congr 1
    ·omega
    ·congr 1
     omega
 | [], hl => simp at hl
 | [_], hl => simp at hl
 | [_, _], hl => simp at hl
 | [_, _, _], hl => simp at hl
 | _ :: _ :: _ :: _ :: _ :: _, hl => simp at hl; omega
theorem wY {l : List Int} (hu : dC l) {bad : Bool} (h : (cK l bad).2.2 = false) : bad = false ∧ l = im (strOfNums (cK l bad).1) ++ (cK l bad).2.1 := by
 have Is := (b9 hu bad 1).1
 have Mm := (b9 hu bad 1).2
 have hu3 : dC (cK l bad).1 := (b9 Mm _ _).1
 rw [K1 hu3]
 have h1 := dF (show (aC (aC l bad 1).2.1 ((aC l bad 1).2.2 || decide (64 < az (aC l bad 1).1)) (az (aC l bad 1).1 : Nat)).2.2 = false from h)
 obtain ⟨h2, h3, h4⟩ := h1
 rw [Bool.or_eq_false_iff] at h2
 obtain ⟨h5, h6, h7⟩ := dF h2.1
 have e := pe Is h6
 refine ⟨h5, ?_⟩
 have h3' : ((cK l bad).1.length : Int) = ((az (aC l bad 1).1 : Nat) : Int) := h3
 have h4' : (aC l bad 1).2.1 = (cK l bad).1 ++ (cK l bad).2.1 := h4
 rw [h3', List.cons_append, ← h4']
 conv => lhs; rw [h7]
 conv => lhs; lhs; rw [e]
 rfl
theorem zP : ∀ (n : Nat) (l : List Int) (bad : Bool), dC l → (eL n l bad).2.2 = false → bad = false ∧ ((eL n l bad).1.length = n ∧ l = (eL n l bad).1.flatMap vD ++ (eL n l bad).2.1)
 | 0, l, bad, hu, h => ⟨h, rfl, by simp [eL]⟩
 | n + 1, l, bad, hu, h => by
  unfold eL at h ⊢
  cases bad with
  | true => simp at h
  | false =>
   simp only [Bool.false_eq_true, if_false] at h ⊢
   have Is := lU hu false
   have Mm : dC (gG l).2.1 := lU Is _
   obtain ⟨h1, h2, h3⟩ := zP n _ _ Mm h
   obtain ⟨h4, h5⟩ := wY Is (show (cK (cK l false).2.1 (cK l false).2.2).2.2 = false from h1)
   obtain ⟨h6, h7⟩ := wY hu h4
   refine ⟨trivial, by rw [List.length_cons, h2], ?_⟩
   rw [List.flatMap_cons, List.append_assoc, ← h3]
   have e : vD (vo l) = im (strOfNums (cK l false).1) ++ im (strOfNums (gG l).1) := rfl
   rw [e, List.append_assoc]
   have h5' : (cK l false).2.1 = im (strOfNums (gG l).1) ++ (gG l).2.1 := h5
   rw [← h5']
   exact h7
theorem NI (s : ByteArray) (h : cB s = true) : nO (cd s) = bytesOf s := by
 unfold cB ju at h
 simp only [Bool.and_eq_true, Bool.not_eq_true', decide_eq_true_eq, beq_iff_eq] at h
 obtain ⟨⟨h6b, h6l⟩, h0, _⟩ := h
 have h6e : (r6 s).2.1 = [] := List.eq_nil_of_length_eq_zero (by omega)
 obtain ⟨b5, n6, e6⟩ := dF (show (aC (r5 s).2.1 (r5 s).2.2 (az (r5 s).1 : Nat)).2.2 = false from h6b)
 obtain ⟨b4, n5, e5⟩ := dF (show (aC (r4 s).2.1 (r4 s).2.2 1).2.2 = false from b5)
 obtain ⟨b3, n4, e4⟩ := dF (show (aC (r3 s).2.1 (r3 s).2.2 64).2.2 = false from b4)
 have u3 := (b9 (wX s) (r2 s).2.2 1).2
 obtain ⟨b3', n3, e3⟩ := zP _ _ _ u3 (show (eL (az (aC (r2 s).2.1 (r2 s).2.2 1).1) (aC (r2 s).2.1 (r2 s).2.2 1).2.1 (aC (r2 s).2.1 (r2 s).2.2 1).2.2).2.2 = false from b3)
 obtain ⟨b2, n3', e3'⟩ := dF b3'
 obtain ⟨b1, e2⟩ := wY (uD s) (show (cK (r1 s).2.1 (r1 s).2.2).2.2 = false from b2)
 obtain ⟨b0, n1, e1⟩ := dF (show (aC (r0 s).2.1 (r0 s).2.2 4).2.2 = false from b1)
 obtain ⟨_, n0, e0⟩ := dF (show (aC (bytesOf s) false 1).2.2 = false from b0)
 have E0 : bytesOf s = (r0 s).1 ++ (r0 s).2.1 := e0
 have E1 : (r0 s).2.1 = (r1 s).1 ++ (r1 s).2.1 := e1
 have E2 : (r1 s).2.1 = im (strOfNums (r2 s).1) ++ (r2 s).2.1 := e2
 have E3' : (r2 s).2.1 = (aC (r2 s).2.1 (r2 s).2.2 1).1 ++ (aC (r2 s).2.1 (r2 s).2.2 1).2.1 := e3'
 have E3 : (aC (r2 s).2.1 (r2 s).2.2 1).2.1 = (r3 s).1.flatMap vD ++ (r3 s).2.1 := e3
 have E4 : (r3 s).2.1 = (r4 s).1 ++ (r4 s).2.1 := e4
 have E5 : (r4 s).2.1 = (r5 s).1 ++ (r5 s).2.1 := e5
 have E6 : (r5 s).2.1 = (r6 s).1 := by
  have : (r5 s).2.1 = (r6 s).1 ++ (r6 s).2.1 := e6
  rw [this, h6e, List.append_nil]
 have F0 : (r0 s).1 = [66] := by
  have := pe (b9 (kL s) false 1).1 n0
  have h0' : az (aC (bytesOf s) false 1).1 = 66 := h0
  rw [h0'] at this
  exact this
 have F1 : lR (az (r1 s).1) = (r1 s).1 := CT (b9 (pX s) _ 4).1 n1
 have F3 : (aC (r2 s).2.1 (r2 s).2.2 1).1 = [((r3 s).1.length : Int)] := by
  have e := pe (b9 (wX s) (r2 s).2.2 1).1 n3'
  have e2 : (r3 s).1.length = az (aC (r2 s).2.1 (r2 s).2.2 1).1 := n3
  rw [e2]
  exact e
 have F5 : (r5 s).1 = [((r6 s).1.length : Int)] := by
  have e := pe (b9 (AJ s) (r4 s).2.2 1).1 n5
  have e2 : ((r6 s).1.length : Int) = ((az (r5 s).1 : Nat) : Int) := n6
  rw [e2]
  exact e
 have F4 : kY (List.replicate 64 0) (r4 s).1 = (r4 s).1 := by
  have e : ((r4 s).1.length : Int) = 64 := n4
  unfold kY
  rw [List.drop_of_length_le (by simp; omega), List.append_nil]
 have I : nO (cd s) = (66 :: (lR (az (r1 s).1) ++ im (strOfNums (r2 s).1) ++ [((r3 s).1.length : Int)] ++ ((r3 s).1.take (r3 s).1.length).flatMap vD)) ++ kY (List.replicate 64 0) (r4 s).1 ++ [((r6 s).1.length : Int)] ++ (r6 s).1 := rfl
 rw [I, List.take_of_length_le (Nat.le_refl _), F1, F4, E0, F0, E1, E2, E3', F3, E3, E4, E5, F5, E6]
 simp
end
section
attribute [local go_sem] bq bn bI bH aW aV bp bj
def jR.f (aI : Int) (ax : Int) (iL : Bool) : Option (Bool) := (dm.f aI ax).bind fun vL => (if vL = true then (if ax ≥ 16 then (some (decide (ax ≤ 26))) else (some false)) else (some false))
set_option maxHeartbeats 8000000 in
set_option maxRecDepth 100000 in
theorem jR.calls (aI : Int) (ax : Int) (iL : Bool) (r : Bool) (w : World) (h : jR.f aI ax iL = some r) :
  Calls Tryz.prog 86 #[.agg #[.int .u32 aI, .int .i64 ax, .bool iL]] w fun e w' => e = .returned (.bool r) ∧ Below w.heap.size w w' := by
 have Zr := Tryz.underlying69
 have Aj := Tryz.underlying67
 have HB := ak (Below.refl w.heap.size w)
 have H : ((dm.f aI ax).bind fun vL => (if vL = true then (if ax ≥ 16 then (some (decide (ax ≤ 26))) else (some false)) else (some false))) = some r := h
 clear h
 replace H := Option.bind_eq_some_iff.mp H
 obtain ⟨vL, eS, H⟩ := H
 replace H : (if vL = true then (if ax ≥ 16 then (some (decide (ax ≤ 26))) else (some false)) else (some false)) = some r := H
 have A2 := ak eS
 clear eS
 by_cases c3 : vL = true
 ·subst c3
  replace H : (if ax ≥ 16 then (some (decide (ax ≤ 26))) else (some false)) = some r := by rw [if_pos rfl] at H; exact H
  by_cases c4 : ax ≥ 16
  ·rw [if_pos c4] at H
   have eQ := decide_eq_true c4
   clear c4
   obtain rfl := Option.some.inj H
   go_enter Tryz.func86, Tryz.ntmps86
   go_wp2_with (first | ((with_reducible refine af (N := 1) rfl ?_); refine bE (N := 1) (cs := #[.int .u32 aI, .int .i64 ax, .bool iL]) (t := 69) ?_; intro pB hg w5 hbox hb; have cR := ak (hbox); have Jg := ak (gl hg : w.heap.size ≤ pB); have Jm := ak (gl hg : w.heap.size ≤ pB); replace HB := bs hb; clear hb hbox hg; have yu := cf cR 0; have yt := cf cR 1; have FI := cf cR 2; have yr := J cR.out 0; have yq := J cR.out 1; have FE := J cR.out 2) | ((with_reducible refine au (f := 75) rfl ?_); refine gC (some 5) Tryz.func75 #[.agg #[.int .u32 aI, .int .i64 ax]] ?_; (with_reducible refine (dm.calls aI ax true _ A2.out).mono ?_); rintro e w7 ⟨rfl, hb⟩; refine ⟨_, rfl, ?_⟩; replace cR := bm cR hb; replace HB := bs hb; (try clear hb); (try clear aU); (try clear hk); (try clear hi); have qq := cf cR 0; have qp := cf cR 1; have FH := cf cR 2; have qo := J cR.out 0; have qn := J cR.out 1; have FD := J cR.out 2))
   go_ret
   exact ⟨rg, bl⟩
  ·rw [if_neg c4] at H
   have eQ := decide_eq_false c4
   clear c4
   obtain rfl := Option.some.inj H
   go_enter Tryz.func86, Tryz.ntmps86
   go_wp2_with (first | ((with_reducible refine af (N := 1) rfl ?_); refine bE (N := 1) (cs := #[.int .u32 aI, .int .i64 ax, .bool iL]) (t := 69) ?_; intro pB hg w9 hbox hb; have cR := ak (hbox); have Jg := ak (gl hg : w.heap.size ≤ pB); have Jm := ak (gl hg : w.heap.size ≤ pB); replace HB := bs hb; clear hb hbox hg; have tc := cf cR 0; have tb := cf cR 1; have CH := cf cR 2; have ta := J cR.out 0; have s9 := J cR.out 1; have Cw := J cR.out 2) | ((with_reducible refine au (f := 75) rfl ?_); refine gC (some 5) Tryz.func75 #[.agg #[.int .u32 aI, .int .i64 ax]] ?_; (with_reducible refine (dm.calls aI ax true _ A2.out).mono ?_); rintro e Db ⟨rfl, hb⟩; refine ⟨_, rfl, ?_⟩; replace cR := bm cR hb; replace HB := bs hb; (try clear hb); (try clear aU); (try clear hk); (try clear hi); have CG := cf cR 0; have CF := cf cR 1; have Sf := cf cR 2; have Cv := J cR.out 0; have Cu := J cR.out 1; have RO := J cR.out 2))
   go_ret
   exact ⟨rg, bl⟩
 ·replace c3 := Bool.eq_false_iff.mpr c3
  subst c3
  replace H : (some false) = some r := by rw [if_neg (show ¬ (false = true) by decide)] at H; exact H
  obtain rfl := Option.some.inj H
  go_enter Tryz.func86, Tryz.ntmps86
  go_wp2_with (first | ((with_reducible refine af (N := 1) rfl ?_); refine bE (N := 1) (cs := #[.int .u32 aI, .int .i64 ax, .bool iL]) (t := 69) ?_; intro pB hg tj hbox hb; have cR := ak (hbox); have Jg := ak (gl hg : w.heap.size ≤ pB); have Jm := ak (gl hg : w.heap.size ≤ pB); replace HB := bs hb; clear hb hbox hg; have CE := cf cR 0; have CD := cf cR 1; have Sc := cf cR 2; have Ct := J cR.out 0; have Cs := J cR.out 1; have RL := J cR.out 2) | ((with_reducible refine au (f := 75) rfl ?_); refine gC (some 5) Tryz.func75 #[.agg #[.int .u32 aI, .int .i64 ax]] ?_; (with_reducible refine (dm.calls aI ax false _ A2.out).mono ?_); rintro e vG ⟨rfl, hb⟩; refine ⟨_, rfl, ?_⟩; replace cR := bm cR hb; replace HB := bs hb; (try clear hb); (try clear aU); (try clear hk); (try clear hi)))
  go_ret
  exact ⟨rg, bl⟩
end
section
def q2 (s : ByteArray) := aC (r1 s).2.1 (r1 s).2.2 1
def q3 (s : ByteArray) := aC (q2 s).2.1 (q2 s).2.2 1
def jS (a b : Nat) : Bool := nX a b && (decide (16 ≤ b) && decide (b ≤ 26))
def nh (s : ByteArray) : Bool := !(q3 s).2.2 && (((q3 s).2.1.length : Int) == 0)
def ez (s : ByteArray) : Bool := nh s && (decide (az (r0 s).1 = 80) && (decide (az (q3 s).1 ≤ 1) && jS (az (r1 s).1) (az (q2 s).1)))
theorem Jx (s : ByteArray) : dC (q2 s).2.1 := (b9 (uD s) _ _).2
theorem NR (s : ByteArray) : az (q2 s).1 < 256 := pf (uD s) _
theorem NQ (s : ByteArray) : az (q3 s).1 < 256 := pf (Jx s) _
theorem G8 (a b : Nat) (ha : a < 4294967296) (o : Bool) : jR.f (a : Int) (b : Int) o = some (jS a b) := by
 unfold jR.f jS
 rw [PC a ha, Option.bind_some]
 cases nX a b with
 | false => rfl
 | true =>
  rw [if_pos rfl, Bool.true_and]
  by_cases h : 16 ≤ b
  ·rw [if_pos (by omega), decide_eq_true h, Bool.true_and]
   congr 1
   rw [Bool.eq_iff_iff]
   simp
   omega
  ·rw [if_neg (by omega), decide_eq_false h]
   rfl
section
variable {g : Nat} {ok : Nat → Prop} {v : Value} {W : World}
theorem Wx (s : ByteArray) (h : Rd W g ok v (r1 s).2.1 (r1 s).2.2) : Calls Tryz.prog 84 #[.pointer (some ⟨g, 0, none⟩), .int .i64 1] W fun e W' => ∃ v', e = .returned (.int .u64 (az (q2 s).1 : Nat)) ∧ Rd W' g ok v' (q2 s).2.1 (q2 s).2.2 ∧ W.grownBy W' (some g) := vJ (uD s) W h
theorem Ww (s : ByteArray) (h : Rd W g ok v (q2 s).2.1 (q2 s).2.2) : Calls Tryz.prog 84 #[.pointer (some ⟨g, 0, none⟩), .int .i64 1] W fun e W' => ∃ v', e = .returned (.int .u64 (az (q3 s).1 : Nat)) ∧ Rd W' g ok v' (q3 s).2.1 (q3 s).2.2 ∧ W.grownBy W' (some g) := vJ (Jx s) W h
theorem Wv (s : ByteArray) (h : Rd W g ok v (q3 s).2.1 (q3 s).2.2) : Calls Tryz.prog 85 #[.pointer (some ⟨g, 0, none⟩)] W fun e W' => e = .returned (.bool (nh s)) ∧ Below W.heap.size W W' := Aq W h
end
def uN : List Value := [.int .u32 0, .int .i64 0, .bool false]
theorem IY (a b : Int) : Tryz.prog.built 67 [(0, .int .u32 a), (1, .int .i64 b)] = some [Value.int .u32 a, .int .i64 b].toArray := by kernel_rfl
theorem IX (a b : Int) : Tryz.prog.built 69 [(0, .agg #[.int .u32 a, .int .i64 b])] = some [Value.int .u32 a, .int .i64 b, .bool false].toArray := by kernel_rfl
theorem Gd : ∀ a : Act, Tryz.prog.built 69 ((#[] : Array (Nat × Operand)).map fun (i, x) => (i, a.eval x)).toList = some uN.toArray := fun _ => by kernel_rfl
end
section
structure Rr (W : World) (g : Nat) (ok : Nat → Prop) (A : Option Addr) (c : Nat) (L : List Int) (n : Nat) (bad : Bool) : Prop where
 box : bC W g [.slice A L.length c, .int .i64 (n : Int), .bool bad] 150
 bs : Kd.F (Kd.int .u8) W ok A L.length L
 hc : L.length ≤ c
 hn : n ≤ L.length
 hl : L.length ≤ 1000000
 ng : ∀ k, ok k → k ≠ g
def uQ.T3 : Bool × List (List Nat × List Nat) := (true, [([], []), ([0], [0]), ([1], [1]), ([2], [2]), ([3], [3]), ([], []), ([5], [5]), ([6], [6]), ([7], [7]), ([4, 8], [4, 8]), ([9, 0, 1, 2, 3, 4, 5, 6, 7, 8, 9], [9])])
def uQ.B3 : List Nat := [0, 1, 3, 7, 15, 0, 32, 96, 224, 511, 1023]
theorem uQ.tab3 : dA .any (opsOf Tryz.f67 3) = uQ.T3 := by kernel_rfl
theorem uQ.bits3 : dy uQ.T3.2 uQ.B3 = true := by kernel_rfl
theorem NU {g : Nat} {ok : Nat → Prop} {A : Option Addr} {c : Nat} {L : List Int} {n : Nat} {bad : Bool} (W : World) (h : Rr W g ok A c L n bad) :
  Calls Tryz.prog 67 #[.pointer (some ⟨g, 0, none⟩)] W fun e W' => e = .returned (.int .i64 (if bad = true then 0 else ((L.drop n).length : Int))) ∧ Below W.heap.size W W' := by
 have h0 := h.box.cell 0 _ rfl
 have h1 := h.box.cell 1 _ rfl
 have h2 := h.box.cell 2 _ rfl
 have hn := h.hn
 have hl := h.hl
 clear h
 cases bad with
 | true =>
  go_enter Tryz.func67, Tryz.ntmps67
  go_wp2
  go_ret
  exact ⟨rfl, Below.refl _ _⟩
 | false =>
  have hw : IntKind.i64.wrap ((L.length : Int) - (n : Int)) = ((L.drop n).length : Int) := by
   rw [List.length_drop, IntKind.wrap_i64]; omega
  go_enter Tryz.func67, Tryz.ntmps67
  go_wp2
  refine dV (n := 11) (S := fun w' => w'.cell? ⟨g, 0, none⟩ = some (.slice A L.length c) ∧ w'.cell? ⟨g, 1, none⟩ = some (.int .i64 (n : Int))) (ds := []) #[false, false, false, false, false, false, false, false, false, false, false] (by kernel_rfl) rfl rfl ⟨h0, h1⟩ (fun hHeld => ?_); refine cz uQ.tab3 uQ.bits3 (fun aa bV => ?_)
  refine pu 0 aa.out ?_
  refine pu 1 aa.out ?_
  refine pu 2 aa.out ?_
  refine tk 3 aa.out bV.out hHeld ?_ (hv := by intro w' bx; obtain ⟨s0, s1⟩ := bx; go_simp; with_reducible rfl)
  refine pu 4 aa.out ?_
  refine pu 5 aa.out ?_
  refine pu 6 aa.out ?_
  refine pu 7 aa.out ?_
  refine tk 8 aa.out bV.out hHeld ?_ (hv := by intro w' bx; obtain ⟨s0, s1⟩ := bx; go_simp; with_reducible rfl)
  refine pu 9 aa.out ?_
  refine pu 10 aa.out ?_
  refine dn aa.out ?_
  try go_wp2
  go_ret
  exact ⟨by simp [hw], bu (Below.refl _ _)⟩
def pD.T1 : Bool × List (List Nat × List Nat) := (true, [([], []), ([0], [0]), ([1], [1]), ([2], [2]), ([3], [3]), ([4], [4]), ([5, 4], [4, 5]), ([4, 6], [4, 6]), ([7, 4], [7]), ([8], [8]), ([8], [8]), ([10, 8], [8, 10]), ([11, 8], [8, 11]), ([12, 8], [8, 12]), ([13, 8], [8, 13]), ([8], [8]), ([15, 8], [8, 15]), ([16, 8], [8, 16]), ([17, 8], [8, 17]), ([14, 18, 8], [8, 14, 18]), ([9, 19, 8], [8, 9, 19]), ([8, 20], [8, 20])])
def pD.B1 : List Nat := [0, 1, 3, 7, 15, 31, 63, 127, 255, 511, 511, 1535, 3583, 7679, 15871, 511, 33279, 98815, 229887, 523775, 1048575, 2097151]
theorem pD.tab1 : dA .any (opsOf Tryz.f66 1) = pD.T1 := by kernel_rfl
theorem pD.bits1 : dy pD.T1.2 pD.B1 = true := by kernel_rfl
theorem Kb {g : Nat} {ok : Nat → Prop} {A : Option Addr} {c : Nat} {L : List Int} {n : Nat} (m : Int) (W : World) (h : Rr W g ok A c L n true) :
  Calls Tryz.prog 66 #[.pointer (some ⟨g, 0, none⟩), .int .i64 m] W fun e W' => e = .returned (.slice none 0 0) ∧ Rr W' g ok A c L n true ∧ W.grownBy W' (some g) := by
 have H := ak h
 have h2 := h.box.cell 2 _ rfl
 have zI : W.drew.cell? ⟨g, 2, none⟩ = some (.bool true) := h2
 have FG := (show bC W.drew g _ _ from h.box).frozen 2
 clear h
 go_enter Tryz.func66, Tryz.ntmps66
 go_wp2
 refine dV (n := 22) (S := fun w' => w'.cell? ⟨g, 2, none⟩ = some (.bool true)) (ds := []) #[false, false, false, false, false, false, false, false, false, false, false, false, false, false, false, false, false, false, false, false, false, false] (by kernel_rfl) rfl rfl zI (fun hHeld => ?_); refine cz pD.tab1 pD.bits1 (fun aa bV => ?_)
 refine pu 0 aa.out ?_
 refine pu 1 aa.out ?_
 refine pu 2 aa.out ?_
 refine tk 3 aa.out bV.out hHeld ?_
 refine pu 4 aa.out ?_
 refine po 5 aa.out ?_
 refine po 6 aa.out ?_
 refine pu 7 aa.out ?_
 refine pu 8 aa.out ?_
 refine po 9 aa.out ?_
 refine po 10 aa.out ?_
 refine po 11 aa.out ?_
 refine po 12 aa.out ?_
 refine po 13 aa.out ?_
 refine po 14 aa.out ?_
 refine po 15 aa.out ?_
 refine po 16 aa.out ?_
 refine po 17 aa.out ?_
 refine po 18 aa.out ?_
 refine po 19 aa.out ?_
 refine po 20 aa.out ?_
 refine pu 21 aa.out ?_
 refine dn aa.out ?_
 go_wp2
 go_ret
 refine ⟨rfl, ⟨?_, Kd.F_drew (Kd.F_far (p := ⟨g, 2, none⟩) H.out.bs (fun k hk => H.out.ng k hk) _), H.out.hc, H.out.hn, H.out.hl, H.out.ng⟩, ?_⟩
 ·exact (show bC (W.setCell ⟨g, 2, none⟩ (.bool true)) g _ _ from H.out.box.set 2 (.bool true))
 ·exact (b8 W g 2 (.bool true)).trans (ef (bu (Below.refl _ _)) _)
def nz.T1 : Bool × List (List Nat × List Nat) := (true, [([], []), ([0], [0]), ([1], [1]), ([2], [2]), ([3], [3]), ([4], [4]), ([5, 4], [4, 5]), ([4, 6], [4, 6]), ([7, 4], [7]), ([8], [8]), ([8], [8]), ([10, 8], [8, 10]), ([11, 8], [8, 11]), ([12, 8], [8, 12]), ([13, 8], [8, 13]), ([8], [8]), ([15, 8], [8, 15]), ([16, 8], [8, 16]), ([17, 8], [8, 17]), ([14, 18, 8], [8, 14, 18]), ([9, 19, 8], [8, 9, 19]), ([8, 20], [8, 20])])
def nz.B1 : List Nat := [0, 1, 3, 7, 15, 31, 63, 127, 255, 511, 511, 1535, 3583, 7679, 15871, 511, 33279, 98815, 229887, 523775, 1048575, 2097151]
theorem nz.tab1 : dA .any (opsOf Tryz.f66 1) = nz.T1 := by kernel_rfl
theorem nz.bits1 : dy nz.T1.2 nz.B1 = true := by kernel_rfl
theorem Ka {g : Nat} {ok : Nat → Prop} {A : Option Addr} {c : Nat} {L : List Int} {n : Nat} (m : Nat) (W : World) (hm : L.length < n + m) (h : Rr W g ok A c L n false) :
  Calls Tryz.prog 66 #[.pointer (some ⟨g, 0, none⟩), .int .i64 (m : Int)] W fun e W' => e = .returned (.slice none 0 0) ∧ Rr W' g ok A c L n true ∧ W.grownBy W' (some g) := by
 have H := ak h
 have DI : W.drew.cell? ⟨g, 0, none⟩ = some (.slice A L.length c) := h.box.cell 0 _ rfl
 have Ur : W.drew.cell? ⟨g, 1, none⟩ = some (.int .i64 (n : Int)) := h.box.cell 1 _ rfl
 have zI : W.drew.cell? ⟨g, 2, none⟩ = some (.bool false) := h.box.cell 2 _ rfl
 have FG := (show bC W.drew g _ _ from h.box).frozen 2
 have hn := h.hn
 have hl := h.hl
 have b1 : decide ((m : Int) < 0) = false := by simp
 have b2 : decide (((L.length - n : Nat) : Int) < (m : Int)) = true := by simp; omega
 have b3 : decide ((m : Int) > ((L.length - n : Nat) : Int)) = true := by simp; omega
 have hw : IntKind.i64.wrap ((L.length : Int) - (n : Int)) = ((L.length - n : Nat) : Int) := by
  rw [IntKind.wrap_i64]; omega
 clear h
 go_enter Tryz.func66, Tryz.ntmps66
 go_wp2
 refine dV (n := 22) (S := fun w' => w'.cell? ⟨g, 0, none⟩ = some (.slice A L.length c) ∧ w'.cell? ⟨g, 1, none⟩ = some (.int .i64 (n : Int)) ∧ w'.cell? ⟨g, 2, none⟩ = some (.bool false)) (ds := []) #[false, false, false, false, false, false, false, false, false, false, false, false, false, false, false, false, false, false, false, false, false, false] (by kernel_rfl) rfl rfl ⟨DI, Ur, zI⟩ (fun hHeld => ?_); refine cz nz.tab1 nz.bits1 (fun aa bV => ?_)
 refine pu 0 aa.out ?_
 refine pu 1 aa.out ?_
 refine pu 2 aa.out ?_
 refine tk 3 aa.out bV.out hHeld ?_ (hv := by intro w' bx; obtain ⟨s0, s1, s2⟩ := bx; go_simp; with_reducible rfl)
 refine pu 4 aa.out ?_
 refine pu 5 aa.out ?_
 refine pu 6 aa.out ?_
 refine pu 7 aa.out ?_
 refine pu 8 aa.out ?_
 refine pu 9 aa.out ?_
 refine pu 10 aa.out ?_
 refine pu 11 aa.out ?_
 refine pu 12 aa.out ?_
 refine tk 13 aa.out bV.out hHeld ?_ (hv := by intro w' bx; obtain ⟨s0, s1, s2⟩ := bx; go_simp; with_reducible rfl)
 refine pu 14 aa.out ?_
 refine pu 15 aa.out ?_
 refine pu 16 aa.out ?_
 refine pu 17 aa.out ?_
 refine tk 18 aa.out bV.out hHeld ?_ (hv := by intro w' bx; obtain ⟨s0, s1, s2⟩ := bx; go_simp; with_reducible rfl)
 refine pu 19 aa.out ?_
 refine pu 20 aa.out ?_
 refine pu 21 aa.out ?_
 refine dn aa.out ?_
 go_wp2
 go_ret
 refine ⟨rfl, ⟨?_, Kd.F_drew (Kd.F_far (p := ⟨g, 2, none⟩) H.out.bs (fun k hk => H.out.ng k hk) _), H.out.hc, H.out.hn, H.out.hl, H.out.ng⟩, ?_⟩
 ·exact (show bC (W.setCell ⟨g, 2, none⟩ (.bool true)) g _ _ from H.out.box.set 2 (.bool true))
 ·exact (b8 W g 2 (.bool true)).trans (ef (bu (Below.refl _ _)) _)
end
end Go.Proofs.YtndddnglapkplaaGreatDoor.V
