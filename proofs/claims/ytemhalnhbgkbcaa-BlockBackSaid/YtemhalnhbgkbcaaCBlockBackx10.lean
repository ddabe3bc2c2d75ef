/- The law BlockBack for every input: texts of ours, put together (part 11 of 16). No further condition. -/
import Derived.Test.YtemhalnhbgkbcaaCBlockBackx2
import Derived.Test.YtemhalnhbgkbcaaCBlockBackx6
import Derived.Test.YtemhalnhbgkbcaaCBlockBackx9
import Derived.Test.YtemhalnhbgkbcaaCBlockBackx8
import Derived.Test.YtemhalnhbgkbcaaCBlockBackx4
import Derived.Outline
import Derived.Test.YtemhalnhbgkbcaaCBlockBackx7
set_option linter.unusedVariables false
set_option linter.unusedSimpArgs false
open Go.RowKit Go.Proofs.YtemhalnhbgkbcaaW.PrintWords Go.Proofs.YtemhalnhbgkbcaaW.PrintLast Go.Proofs.YtemhalnhbgkbcaaW.PrintMore Go.Proofs.Ytemhalnhbgkbcaa.Z
section
namespace Go.Proofs.Ytemhalnhbgkbcaa.V
theorem eT {fn : Func} {p p' u : Tmp} {ty ty' : TypeId} (h : fn.results = #[.cell p ty, .cell p' ty', .tmp u]) (tmps : Array Value) (P : Program) (w : World) (g g' : Nat) (t t' : TypeId) (cs cs' : List Value) (d d' : TypeDesc)
  (hp : tmps.getD p undef = .pointer (some ⟨g, 0, none⟩)) (hg : aH w g cs t)
  (hd : (match d with | .struct _ | .array _ _ => true | _ => false) = true) (hu : P.underlying ty = some d) (hi : (P.info? ty).map (·.size) = some cs.length)
  (hp' : tmps.getD p' undef = .pointer (some ⟨g', 0, none⟩)) (hg' : aH w g' cs' t')
  (hd' : (match d' with | .struct _ | .array _ _ => true | _ => false) = true) (hu' : P.underlying ty' = some d') (hi' : (P.info? ty').map (·.size) = some cs'.length) :
  (results fn tmps).run P w = .ok (.tuple #[.agg cs.toArray, .agg cs'.toArray, tmps.getD u undef]) w :=
 AT (rs := [.cell p ty, .cell p' ty', .tmp u]) h (by simp) (.cell g t cs.toArray (0, 0) d hp hg hu (by cases d <;> exact hd) (by simpa using hi) (.cell g' t' cs'.toArray (0, 0) d' hp' hg' hu' (by cases d' <;> exact hd') (by simpa using hi') (.tmp .nil)))
theorem eM.lower' {W : World} {b1 b2 : Nat} {v : Value} {b : Bk} (h : eM W b1 v b) (hb : b2 ≤ b1) : eM W b2 v b := by
 obtain ⟨vs, vf, va, rfl, h1, h2, h3⟩ := h
 exact ⟨vs, vf, va, rfl, Kd.R_lower h1 hb, Kd.R_lower h2 hb, Kd.R_lower h3 hb⟩
theorem tr (b : Bk) (M : List kD) (As Ap Am : Option Addr) (cs cp cm : Nat) (w : World) (hr : RbR w b M As cs Ap cp Am cm) (x : Int) (h0 : 0 ≤ x) (h1 : x < 4294967296) :
  Calls Try.prog 100 #[.agg (dt b.addr b.aff (.slice As b.slots.length cs) (.slice Ap b.free.length cp) (.slice Am M.length cm)).toArray, .int .u32 x] w fun e w' => e = .returned (.bool (decide (bN x = b.addr))) ∧ Below w.heap.size w w' :=
 fA.calls _ _ _ _ _ _ _ _ _ _ _ x _ w hr.sr hr.sc hr.fr hr.fc hr.ar hr.ac (ML b M x h0 h1)
theorem pc (a : kD) (h0 : a.f0.size ≤ 9223372036854775807) (h1 : a.f1.size ≤ 9223372036854775807) (w : World) :
  Calls Try.prog 60 #[.agg #[.string a.f0, .string a.f1]] w fun e w' => e = .returned (.bool (eP (cv a))) ∧ Below w.heap.size w w' :=
 j3.calls 9223372036854775808 a.f0 a.f1 _ w (Fq a.f0 a.f1 h0 h1 _ (Nat.le_refl _))
def nH.T1 : Bool × List (List Nat × List Nat) := (true, [([], []), ([], []), ([], []), ([2], [2]), ([0, 1, 3, 3], [0, 1, 3]), ([4], [4]), ([5], [5]), ([5], [5]), ([], []), ([8, 6, 4, 0, 1, 2, 3, 4, 5, 6, 8], [6, 8]), ([7, 9, 0, 1, 2, 3, 4, 5, 6, 7, 8, 9], [7])])
def nH.B1 : List Nat := [0, 0, 0, 4, 15, 31, 63, 63, 0, 383, 1023]
theorem nH.tab1 : dP .any (opsOf Try.f83 1) = nH.T1 := by kernel_rfl
theorem nH.bits1 : dr nH.T1.2 nH.B1 = true := by kernel_rfl
def sw.T3 : Bool × List (List Nat × List Nat) := (true, [([], []), ([], []), ([], []), ([2], [2]), ([3], [3]), ([4], [4]), ([5, 4, 4], [4, 5]), ([4, 6], [4, 6]), ([0, 6, 0], [0]), ([1, 8, 0, 1, 8], [1]), ([7, 9, 0, 1, 2, 3, 4, 5, 6, 7, 8, 9], [7])])
def sw.B3 : List Nat := [0, 0, 0, 4, 12, 28, 60, 124, 125, 383, 1023]
theorem sw.tab3 : dP .any (opsOf Try.f83 3) = sw.T3 := by kernel_rfl
theorem sw.bits3 : dr sw.T3.2 sw.B3 = true := by kernel_rfl
def uA.T6 : Bool × List (List Nat × List Nat) := (true, [([], []), ([], []), ([], []), ([2], [2]), ([3], [3]), ([4], [4]), ([5, 4, 4], [4, 5]), ([4, 6], [4, 6]), ([0, 6, 0], [0]), ([1, 8, 0, 1, 8], [1]), ([7, 9, 0, 1, 2, 3, 4, 5, 6, 7, 8, 9], [7])])
def uA.B6 : List Nat := [0, 0, 0, 4, 12, 28, 60, 124, 125, 383, 1023]
theorem uA.tab6 : dP .any (opsOf Try.f83 6) = uA.T6 := by kernel_rfl
theorem uA.bits6 : dr uA.T6.2 uA.B6 = true := by kernel_rfl
def uz.T7 : Bool × List (List Nat × List Nat) := (true, [([], []), ([], []), ([], []), ([], []), ([1, 2, 3], [1, 2, 3]), ([], []), ([5], [5]), ([0, 4, 0], [0]), ([4, 7, 0, 1, 2, 3, 4, 7], [4]), ([6, 8, 0, 1, 2, 3, 4, 5, 6, 7, 8], [6])])
def uz.B7 : List Nat := [0, 0, 0, 0, 14, 0, 32, 31, 159, 511]
theorem uz.tab7 : dP .any (opsOf Try.f83 7) = uz.T7 := by kernel_rfl
theorem uz.bits7 : dr uz.T7.2 uz.B7 = true := by kernel_rfl
set_option maxHeartbeats 16000000 in
set_option maxRecDepth 100000 in
theorem C6 (b : Bk) (hg : RG b) (x : Int) (h0 : 0 ≤ x) (h1 : x < 4294967296) (a : kD) (e9 : a.f0.size ≤ 9223372036854775807) (fB : a.f1.size ≤ 9223372036854775807) (hma : eP (cv a) = false) (v v2 : Value) (w : World) (base : Nat) (hbase : base ≤ w.heap.size) (hO : ee w base v b) (hR : eM w base v2 b) :
  Calls Try.prog 83 #[v, v2, .int .u32 x, .agg #[.string a.f0, .string a.f1]] w fun e w' => ∃ v1 v2 b', e = .returned (.tuple #[v1, v2, .bool true]) ∧ RG b' ∧ ee w' base v1 b' ∧ eM w' base v2 b' ∧ Below w.heap.size w w' := by
 obtain ⟨hl, vf, va, rfl, hf, ha⟩ := hO
 obtain ⟨vs, vp, vm, rfl, hs, hp, hm⟩ := hR
 obtain ⟨Af, cf, rfl⟩ := Kd.R_slice hf
 obtain ⟨Aa, ca, rfl⟩ := Kd.R_slice ha
 obtain ⟨As, cs, rfl⟩ := Kd.R_slice hs
 obtain ⟨Ap, cp, rfl⟩ := Kd.R_slice hp
 obtain ⟨M, hM⟩ : ∃ M, M = b.attrs.map vc := ⟨_, rfl⟩
 rw [← hM] at hm
 obtain ⟨Am, cm, rfl⟩ := Kd.R_slice hm
 have HL := ak hl
 have HM := ak hM
 have bl := ak hf
 have dg := ak ha
 have aZ := ak hs
 have ed := ak hp
 have bL := ak hm
 have HG := ak hg
 have ae := ak (Below.refl w.heap.size w)
 have HBASE := ak hbase
 have HLB := ak (b9 (aX b.addr b.aff b.slots (.slice Af b.free.length cf) (.slice Aa b.attrs.length ca)) (ag _ _ _ _ _ HL.out))
 have hno : (eP (cv a) && decide (bN x = b.addr)) = false := by rw [hma]; rfl
 have e1 : pz b x (cv a) = false := by unfold pz; rw [hno, Bool.and_false]
 have e2 : qH b x (cv a) = 1 := by unfold qH; rw [if_neg (by rw [e1]; decide)]
 have e3 : nf b x (cv a) = jS := by unfold nf; rw [if_neg (by rw [e1]; decide)]
 have hat := fun v w h => nM b hg.ok x h0 h1 (cv a) v w h
 rw [e2, e3] at hat
 have hnl : jS.slots.length = 64 := rfl
 obtain ⟨nb, hnb⟩ : ∃ nb, nb = jS := ⟨_, rfl⟩
 rw [← hnb] at hat hnl
 have HNL := ak hnl
 have HAT := ak hat
 have HNB := ak hnb
 have HMY := ak (fun w => pc a e9 fB w)
 have HIN := ak (fun w h => tr b M As Ap Am cs cp cm w h x h0 h1)
 have HOF := ak (fun w h => pW b hl hg.ok.s8 (fun s hs => (hg.s0 s hs).2) M As Ap Am cs cp cm w h x h0 h1)
 rw [hma] at HMY
 clear hma hno hl hM hf ha hs hp hm hg e1 e2 e3 hat hnl hnb hbase
 go_enter Try.func83, Try.ntmps83
 go_wp2_with (first
  | (refine aE rfl 57 (.tmp 0) rfl _ rfl ?_; intro gX W1 J aa I; have bS := ge ae J; have aj := ak (ae.out.trans (I.mono ae.out.size)); have bg := mv I bl; have cH := mv I dg; have bd := mv I aZ; have dc := mv I ed; have bG := mv I bL; have ah := ak (aa); clear J aa I ae bl dg aZ ed bL)
  | (refine aE rfl 62 (.tmp 1) rfl _ rfl ?_; intro gY W2 J aa I; have iZ := ge aj J; have fD := ne ah J; have aw := mv I aj; have bM := mv I bg; have dh := mv I cH; have bF := mv I bd; have dp := mv I dc; have cw := mv I bG; have au := mv I ah; have cr := ak (aa); clear J aa I aj bg cH bd dc bG ah)
  | (refine aE rfl 76 (.tmp 3) rfl _ rfl ?_; intro gA W3 J aa I; have kj := ge aw J; have eJ := ne au J; have wz := ne cr J; have aD := mv I aw; have cg := mv I bM; have dL := mv I dh; have b6 := mv I bF; have ec := mv I dp; have dq := ak (Kd.R_mono (ok' := fun k_ => True) (Kd.R_below cw.out I) (fun _ _ => trivial)); have aA := mv I au; have cE := mv I cr; have cR := ak (aa); clear J aa I aw bM dh bF dp cw au cr)
  | (refine ax (some 8) rfl rfl 57 rfl a7 bJ ?_; intro gZ W4 J aa I; have bO := ge aD J; have aG := ne aA J; have fP := ne cE J; have gh := ne cR J; have aW := mv I aD; have cd := mv I cg; have dB := mv I dL; have cP := mv I b6; have ey := mv I ec; have dw := mv I dq; have aV := mv I aA; have b5 := mv I cE; have dd := mv I cR; have bb := ak (aa); clear J aa I aD cg dL b6 ec dq aA cE cR)
  | (refine ax (some 9) rfl rfl 62 rfl dM (fun _ => by kernel_rfl) ?_; intro gU W5 J aa I; have fx := ge aW J; have gF := ne aV J; have dE := ne b5 J; have wA := ne dd J; have gE := ne bb J; have bf := mv I aW; have b8 := mv I cd; have cW := mv I dB; have cY := mv I cP; have er := mv I ey; have cQ := mv I dw; have a9 := mv I aV; have du := mv I b5; have eg := mv I dd; have bu := mv I bb; have ev := ak (aa); clear J aa I aW cd dB cP ey dw aV b5 dd bb))
 have ai : Below W5.heap.size W5 W5.drew := bp (Below.refl _ _)
 have bD := mv ai bf; have cI := mv ai b8; have dx := mv ai cW; have dm := mv ai cY; have ew := mv ai er; have dU := mv ai cQ; have bj := mv ai a9; have cN := mv ai du; have e6 := mv ai eg; have bT := mv ai bu; have dX := mv ai ev
 clear ai bf b8 cW cY er cQ a9 du eg bu ev
 have hB := bD
 have hF := cI
 have hG := dx
 have hS := dm
 have hP := ew
 have hM := dU
 have hX := bj
 have hY := cN
 have hA := e6
 have hZ := bT
 have hU := dX
 clear bD cI dx dm ew dU bj cN e6 bT dX
 refine da (n := 11) (S := fun w' => aH w' gX (aX b.addr b.aff b.slots (.slice Af b.free.length cf) (.slice Aa b.attrs.length ca)) 57 ∧ aH w' gA [.string a.f0, .string a.f1] 76) (ds := []) #[false, false, false, false, false, false, false, false, false, false, false] (by kernel_rfl) rfl rfl ⟨hX.out, hA.out⟩ (fun hHeld => ?_); refine bK nH.tab1 nH.bits1 (fun ab bq => ?_)
 refine tk 0 ab.out bq.out hHeld ?_ (hv := by exact fun _ aY => aJ 57 (.tmp 4) rfl gX rfl _ _ _ aY.1 Try.underlying57 rfl HLB.out)
 refine pu 1 ab.out ?_
 refine tk 2 ab.out bq.out hHeld ?_ (hv := by exact fun _ aY => aJ 76 (.tmp 7) rfl gA rfl _ _ _ aY.2 Try.underlying76 rfl (by kernel_rfl))
 refine oS (σ := Nat × Value) 2 #[true, true, true, true, true, true, true, true, true, false, false] (fun s => [(19, et (cv a)), (20, .tuple #[s.2, .int .i64 1]), (15, .tuple #[s.2, .int .i64 1]), (21, s.2), (22, .int .i64 1), (11, .pointer (some ⟨s.1, 0, none⟩))]) (fun s w' => Aside0 (Below w.heap.size w w') ∧ Aside0 (Kd.R (Kd.int .u8) 5 w' base (fun _ => True) (.slice Af b.free.length cf) b.free) ∧ Aside0 (Kd.R iR 85 w' base (fun _ => True) (.slice Aa b.attrs.length ca) b.attrs) ∧ Aside0 (Kd.R (Kd.int .i64) 3 w' base (fun _ => True) (.slice As b.slots.length cs) b.slots) ∧ Aside0 (Kd.R (Kd.int .i64) 3 w' base (fun _ => True) (.slice Ap b.free.length cp) b.free) ∧ Aside0 (Kd.R hH 76 w' base (fun _ => True) (.slice Am M.length cm) M) ∧ Aside0 (aH w' gX (aX b.addr b.aff b.slots (.slice Af b.free.length cf) (.slice Aa b.attrs.length ca)) 57) ∧ Aside0 (aH w' gY (dt b.addr b.aff (.slice As b.slots.length cs) (.slice Ap b.free.length cp) (.slice Am M.length cm)) 62) ∧ Aside0 (aH w' gA [.string a.f0, .string a.f1] 76) ∧ Aside0 (aH w' gZ a7 57) ∧ Aside0 (aH w' gU dM 62) ∧ Aside0 (aH w' s.1 a7 57) ∧ Aside0 (w.heap.size ≤ s.1) ∧ Aside0 (gX ≠ s.1) ∧ Aside0 (gZ ≠ s.1) ∧ Aside0 (ee w' base s.2 nb)) ?_ ?_
 rotate_left
 ·intro dZ
  refine tw 3 8 ab.out (fun K hK => ?_) (fun K hK => ?_)
  ·skip
   refine gs Try.func50 #[.agg #[.string a.f0, .string a.f1]] (jh a _) ?_
   rintro e V3 ⟨rfl, I⟩
   refine ⟨_, rfl, ?_⟩
   (try replace hV := mv I hV); (try replace hQ := mv I hQ); replace hB := mv I hB; replace hF := mv I hF; replace hG := mv I hG; replace hS := mv I hS; replace hP := mv I hP; replace hM := mv I hM; replace hX := mv I hX; replace hY := mv I hY; replace hA := mv I hA; replace hZ := mv I hZ; replace hU := mv I hU; clear  I
   refine kn hK ⟨hX.out, hA.out⟩ (fun hHeld => ?_)
   clear hK K
   refine tw 4 8 ab.out (fun K hK => ?_) (fun K hK => ?_)
   ·skip
    refine gs Try.func51 #[.agg (aX b.addr b.aff b.slots (.slice Af b.free.length cf) (.slice Aa b.attrs.length ca)).toArray, .int .u32 x, et (cv a)] (HAT.out _ _ ⟨_, _, _, _, rfl, ⟨HL.out, (rr hF).1, (rr hF).2, (rr hG).1, (rr hG).2⟩⟩) ?_
    rintro e V4 ⟨v_, rfl, aU, I⟩
    refine ⟨_, rfl, ?_⟩
    have hV := ak (aU.lower (lb HBASE hB)); (try replace hQ := mv I hQ); replace hB := mv I hB; replace hF := mv I hF; replace hG := mv I hG; replace hS := mv I hS; replace hP := mv I hP; replace hM := mv I hM; replace hX := mv I hX; replace hY := mv I hY; replace hA := mv I hA; replace hZ := mv I hZ; replace hU := mv I hU; clear aU I
    refine kn hK ⟨hX.out, hA.out⟩ (fun hHeld => ?_)
    clear hK K
    refine pu 5 ab.out ?_
    refine pu 6 ab.out ?_
    refine pu 7 ab.out ?_
    refine on 8 ab.out (fun K hK => ?_)
    refine dz (by rfl) 57 rfl a7 bJ ?_
    intro gQ V8 J aa I
    have cz := ge hB J
    have bk := ne hX J
    have a8 := ne hZ J
    (try replace hV := mv I hV)
    replace hB := mv I hB
    replace hF := mv I hF
    replace hG := mv I hG
    replace hS := mv I hS
    replace hP := mv I hP
    replace hM := mv I hM
    replace hX := mv I hX
    replace hY := mv I hY
    replace hA := mv I hA
    replace hZ := mv I hZ
    replace hU := mv I hU
    have hQ := ak aa
    clear J aa I
    refine kn hK ⟨hX.out, hA.out⟩ (fun hHeld => ?_)
    clear hK K
    exact nc (dZ ⟨gQ, v_⟩ _ ⟨hB, hF, hG, hS, hP, hM, hX, hY, hA, hZ, hU, hQ, cz, bk, a8, hV⟩)
   ·skip
    refine dz (by rfl) 57 rfl a7 bJ ?_
    intro gQ V8 J aa I
    have cz := ge hB J
    have bk := ne hX J
    have a8 := ne hZ J
    (try replace hV := mv I hV)
    replace hB := mv I hB
    replace hF := mv I hF
    replace hG := mv I hG
    replace hS := mv I hS
    replace hP := mv I hP
    replace hM := mv I hM
    replace hX := mv I hX
    replace hY := mv I hY
    replace hA := mv I hA
    replace hZ := mv I hZ
    replace hU := mv I hU
    have hQ := ak aa
    clear J aa I
    refine kn hK ⟨hX.out, hA.out⟩ (fun hHeld => ?_)
    clear hK K
    refine on 4 ab.out (fun K hK => ?_)
    refine gs Try.func51 #[.agg (aX b.addr b.aff b.slots (.slice Af b.free.length cf) (.slice Aa b.attrs.length ca)).toArray, .int .u32 x, et (cv a)] (HAT.out _ _ ⟨_, _, _, _, rfl, ⟨HL.out, (rr hF).1, (rr hF).2, (rr hG).1, (rr hG).2⟩⟩) ?_
    rintro e V4 ⟨v_, rfl, aU, I⟩
    refine ⟨_, rfl, ?_⟩
    have hV := ak (aU.lower (lb HBASE hB)); (try replace hQ := mv I hQ); replace hB := mv I hB; replace hF := mv I hF; replace hG := mv I hG; replace hS := mv I hS; replace hP := mv I hP; replace hM := mv I hM; replace hX := mv I hX; replace hY := mv I hY; replace hA := mv I hA; replace hZ := mv I hZ; replace hU := mv I hU; clear aU I
    refine kn hK ⟨hX.out, hA.out⟩ (fun hHeld => ?_)
    clear hK K
    refine pu 5 ab.out ?_
    refine pu 6 ab.out ?_
    refine pu 7 ab.out ?_
    exact nc (dZ ⟨gQ, v_⟩ _ ⟨hB, hF, hG, hS, hP, hM, hX, hY, hA, hZ, hU, hQ, cz, bk, a8, hV⟩)
  ·skip
   refine dz (by rfl) 57 rfl a7 bJ ?_
   intro gQ V8 J aa I
   have cz := ge hB J
   have bk := ne hX J
   have a8 := ne hZ J
   (try replace hV := mv I hV)
   replace hB := mv I hB
   replace hF := mv I hF
   replace hG := mv I hG
   replace hS := mv I hS
   replace hP := mv I hP
   replace hM := mv I hM
   replace hX := mv I hX
   replace hY := mv I hY
   replace hA := mv I hA
   replace hZ := mv I hZ
   replace hU := mv I hU
   have hQ := ak aa
   clear J aa I
   refine kn hK ⟨hX.out, hA.out⟩ (fun hHeld => ?_)
   clear hK K
   refine on 3 ab.out (fun K hK => ?_)
   refine gs Try.func50 #[.agg #[.string a.f0, .string a.f1]] (jh a _) ?_
   rintro e V3 ⟨rfl, I⟩
   refine ⟨_, rfl, ?_⟩
   (try replace hV := mv I hV); (try replace hQ := mv I hQ); replace hB := mv I hB; replace hF := mv I hF; replace hG := mv I hG; replace hS := mv I hS; replace hP := mv I hP; replace hM := mv I hM; replace hX := mv I hX; replace hY := mv I hY; replace hA := mv I hA; replace hZ := mv I hZ; replace hU := mv I hU; clear  I
   refine kn hK ⟨hX.out, hA.out⟩ (fun hHeld => ?_)
   clear hK K
   refine on 4 ab.out (fun K hK => ?_)
   refine gs Try.func51 #[.agg (aX b.addr b.aff b.slots (.slice Af b.free.length cf) (.slice Aa b.attrs.length ca)).toArray, .int .u32 x, et (cv a)] (HAT.out _ _ ⟨_, _, _, _, rfl, ⟨HL.out, (rr hF).1, (rr hF).2, (rr hG).1, (rr hG).2⟩⟩) ?_
   rintro e V4 ⟨v_, rfl, aU, I⟩
   refine ⟨_, rfl, ?_⟩
   have hV := ak (aU.lower (lb HBASE hB)); (try replace hQ := mv I hQ); replace hB := mv I hB; replace hF := mv I hF; replace hG := mv I hG; replace hS := mv I hS; replace hP := mv I hP; replace hM := mv I hM; replace hX := mv I hX; replace hY := mv I hY; replace hA := mv I hA; replace hZ := mv I hZ; replace hU := mv I hU; clear aU I
   refine kn hK ⟨hX.out, hA.out⟩ (fun hHeld => ?_)
   clear hK K
   refine pu 5 ab.out ?_
   refine pu 6 ab.out ?_
   refine pu 7 ab.out ?_
   exact nc (dZ ⟨gQ, v_⟩ _ ⟨hB, hF, hG, hS, hP, hM, hX, hY, hA, hZ, hU, hQ, cz, bk, a8, hV⟩)
 intro s w' hFF; obtain ⟨gQ, v_⟩ := s; simp only at hFF; obtain ⟨hB, hF, hG, hS, hP, hM, hX, hY, hA, hZ, hU, hQ, cz, bk, a8, hV⟩ := hFF; have aU := hV.out; obtain ⟨gR, nE, nF, rfl, cV, dA⟩ := aU; obtain ⟨A8, c8, rfl⟩ := Kd.R_slice cV; obtain ⟨A9, c9, rfl⟩ := Kd.R_slice dA; have hC := ak cV; have hD := ak dA; clear hV gR cV dA
 refine nj ?_
 refine ow 9 ab.out (fun K hK => ?_)
 refine bz (by rfl) rfl 57 (.tmp 11) (.tmp 21) rfl gQ (aX nb.addr nb.aff nb.slots (.slice A8 nb.free.length c8) (.slice A9 nb.attrs.length c9)) rfl rfl 57 _ hQ.out 68 (by kernel_rfl) (ag _ _ _ _ _ HNL.out) rfl (bZ _ _ _ _ _ rfl rfl) ?_
 intro V9 aa J; replace hB := gb hB cz J; replace hF := gr hF hQ J; replace hG := gr hG hQ J; replace hS := gr hS hQ J; replace hP := gr hP hQ J; replace hM := gr hM hQ J; replace hX := gn hX bk J; replace hY := gx hY hQ J; replace hA := gx hA hQ J; replace hZ := gn hZ a8 J; replace hU := gx hU hQ J; replace hC := gr hC hQ J; replace hD := gr hD hQ J; replace hQ := ak (aa); clear aa J
 refine hK.out _ _ ⟨hX.out, hA.out⟩ (fun hHeld => ?_)
 clear hK K
 refine pu 10 ab.out ?_
 refine dn ab.out ?_
 clear hHeld
 have HLN := ak (b9 (aX nb.addr nb.aff nb.slots (.slice A8 nb.free.length c8) (.slice A9 nb.attrs.length c9)) (ag _ _ _ _ _ HNL.out))
 have HZR := ak (fun v w h => oy v w (by rw [← HNB.out]; exact h))
 go_wp2_with (first
  | ((with_reducible refine av (N := 23) rfl ?_); refine ay rfl 76 (.tmp 7) rfl gA rfl _ _ _ hA.out Try.underlying76 rfl 2 (by kernel_rfl) rfl ?_)
  | (go_at_call 60; refine (HMY.out _).mono ?_; rintro e qJ ⟨rfl, I⟩; have iL := mv I hB; have ju := mv I hF; have js := mv I hG; have ie := mv I hS; have ig := mv I hP; have ij := mv I hM; have jn := mv I hX; have ic := mv I hY; have ot := mv I hA; have jm := mv I hZ; have jo := mv I hU; have jq := mv I hQ; have jy := mv I hC; have jw := mv I hD; clear I hB hF hG hS hP hM hX hY hA hZ hU hQ hC hD))
 have ai : Below qJ.heap.size qJ qJ.drew := bp (Below.refl _ _)
 have iY := mv ai iL; have jt := mv ai ju; have jr := mv ai js; have iI := mv ai ie; have iJ := mv ai ig; have iK := mv ai ij; have iU := mv ai jn; have iy := mv ai ic; have oq := mv ai ot; have iT := mv ai jm; have iW := mv ai jo; have iX := mv ai jq; have jx := mv ai jy; have jv := mv ai jw
 clear ai iL ju js ie ig ij jn ic ot jm jo jq jy jw
 have hB := iY
 have hF := jt
 have hG := jr
 have hS := iI
 have hP := iJ
 have hM := iK
 have hX := iU
 have hY := iy
 have hA := oq
 have hZ := iT
 have hU := iW
 have hQ := iX
 have hC := jx
 have hD := jv
 clear iY jt jr iI iJ iK iU iy oq iT iW iX jx jv
 refine da (n := 11) (S := fun w' => aH w' gX (aX b.addr b.aff b.slots (.slice Af b.free.length cf) (.slice Aa b.attrs.length ca)) 57 ∧ aH w' gY (dt b.addr b.aff (.slice As b.slots.length cs) (.slice Ap b.free.length cp) (.slice Am M.length cm)) 62 ∧ aH w' gQ (aX nb.addr nb.aff nb.slots (.slice A8 nb.free.length c8) (.slice A9 nb.attrs.length c9)) 57) (ds := []) #[false, false, false, false, false, false, false, false, false, false, false] (by kernel_rfl) rfl rfl ⟨hX.out, hY.out, hQ.out⟩ (fun hHeld => ?_); refine bK sw.tab3 sw.bits3 (fun ab bq => ?_)
 refine tk 0 ab.out bq.out hHeld ?_ (hv := by exact fun _ aY => aJ 57 (.tmp 4) rfl gX rfl _ _ _ aY.1 Try.underlying57 rfl HLB.out)
 refine tk 1 ab.out bq.out hHeld ?_ (hv := by exact fun _ aY => aJ 62 (.tmp 5) rfl gY rfl _ _ _ aY.2.1 Try.underlying62 rfl (by kernel_rfl))
 refine pu 2 ab.out ?_
 refine pu 3 ab.out ?_
 refine pu 4 ab.out ?_
 refine tk 5 ab.out bq.out hHeld ?_ (hv := by exact fun _ aY => aJ 57 (.tmp 11) rfl gQ rfl _ _ _ aY.2.2 Try.underlying57 rfl HLN.out)
 refine on 6 ab.out (fun K hK => ?_)
 refine gs Try.func43 #[.agg (aX nb.addr nb.aff nb.slots (.slice A8 nb.free.length c8) (.slice A9 nb.attrs.length c9)).toArray] (HZR.out _ _ ⟨_, _, _, _, rfl, ⟨HNL.out, (rr hC).1, (rr hC).2, (rr hD).1, (rr hD).2⟩⟩) ?_
 rintro e V6 ⟨rfl, I⟩
 refine ⟨_, rfl, ?_⟩
 replace hB := mv I hB; replace hF := mv I hF; replace hG := mv I hG; replace hS := mv I hS; replace hP := mv I hP; replace hM := mv I hM; replace hX := mv I hX; replace hY := mv I hY; replace hA := mv I hA; replace hZ := mv I hZ; replace hU := mv I hU; replace hQ := mv I hQ; replace hC := mv I hC; replace hD := mv I hD
 refine kn hK ⟨hX.out, hY.out, hQ.out⟩ (fun hHeld => ?_)
 clear hK K
 refine pu 7 ab.out ?_
 refine ow 8 ab.out (fun K hK => ?_)
 refine bz (by rfl) rfl 57 (.tmp 8) (.tmp 32) rfl gZ (aX b.addr b.aff b.slots (.slice Af b.free.length cf) (.slice Aa b.attrs.length ca)) rfl rfl 57 _ hZ.out 68 (by kernel_rfl) (ag _ _ _ _ _ HL.out) rfl (bZ _ _ _ _ _ rfl rfl) ?_
 intro V8 aa J; replace hB := gb hB bO J; replace hF := gr hF hZ J; replace hG := gr hG hZ J; replace hS := gr hS hZ J; replace hP := gr hP hZ J; replace hM := gr hM hZ J; replace hX := gn hX aG J; replace hY := gx hY hZ J; replace hA := gx hA hZ J; replace hU := gx hU hZ J; replace hQ := gm hQ a8 J; replace hC := gr hC hZ J; replace hD := gr hD hZ J; replace hZ := ak (aa); clear aa J
 refine hK.out _ _ ⟨hX.out, hY.out, hQ.out⟩ (fun hHeld => ?_)
 clear hK K
 refine ow 9 ab.out (fun K hK => ?_)
 refine bz (by rfl) rfl 62 (.tmp 9) (.tmp 33) rfl gU (dt b.addr b.aff (.slice As b.slots.length cs) (.slice Ap b.free.length cp) (.slice Am M.length cm)) rfl rfl 62 _ hU.out 5 (by kernel_rfl) rfl rfl (dO _ _ rfl rfl rfl) ?_
 intro V9 aa J; replace hB := gb hB fx J; replace hF := gr hF hU J; replace hG := gr hG hU J; replace hS := gr hS hU J; replace hP := gr hP hU J; replace hM := gr hM hU J; replace hX := gx hX hU J; replace hY := gn hY dE J; replace hA := gx hA hU J; replace hZ := gx hZ hU J; replace hQ := gx hQ hU J; replace hC := gr hC hU J; replace hD := gr hD hU J; replace hU := ak (aa); clear aa J
 refine hK.out _ _ ⟨hX.out, hY.out, hQ.out⟩ (fun hHeld => ?_)
 clear hK K
 refine pu 10 ab.out ?_
 refine dn ab.out ?_
 clear hHeld
 go_wp2_with fail
 refine bodyPost_ret (eT rfl _ _ _ gZ gU 57 62 _ _ _ _ rfl hZ.out rfl Try.underlying57 (by first | exact HLB.out | exact HLN.out) rfl hU.out rfl Try.underlying62 (by kernel_rfl)) rfl ⟨_, _, b, rfl, ?_, ?_, ?_, hB.out⟩
 ·exact HG.out
 ·exact ⟨HL.out, _, _, rfl, hF.out, hG.out⟩
 ·exact ⟨_, _, _, rfl, hS.out, hP.out, by rw [← HM.out]; exact hM.out⟩
set_option maxHeartbeats 16000000 in
set_option maxRecDepth 100000 in
theorem C5 (b : Bk) (hg : RG b) (x : Int) (h0 : 0 ≤ x) (h1 : x < 4294967296) (a : kD) (e9 : a.f0.size ≤ 9223372036854775807) (fB : a.f1.size ≤ 9223372036854775807) (hma : eP (cv a) = true) (hin : bN x ≠ b.addr) (v v2 : Value) (w : World) (base : Nat) (hbase : base ≤ w.heap.size) (hO : ee w base v b) (hR : eM w base v2 b) :
  Calls Try.prog 83 #[v, v2, .int .u32 x, .agg #[.string a.f0, .string a.f1]] w fun e w' => ∃ v1 v2 b', e = .returned (.tuple #[v1, v2, .bool true]) ∧ RG b' ∧ ee w' base v1 b' ∧ eM w' base v2 b' ∧ Below w.heap.size w w' := by
 obtain ⟨hl, vf, va, rfl, hf, ha⟩ := hO
 obtain ⟨vs, vp, vm, rfl, hs, hp, hm⟩ := hR
 obtain ⟨Af, cf, rfl⟩ := Kd.R_slice hf
 obtain ⟨Aa, ca, rfl⟩ := Kd.R_slice ha
 obtain ⟨As, cs, rfl⟩ := Kd.R_slice hs
 obtain ⟨Ap, cp, rfl⟩ := Kd.R_slice hp
 obtain ⟨M, hM⟩ : ∃ M, M = b.attrs.map vc := ⟨_, rfl⟩
 rw [← hM] at hm
 obtain ⟨Am, cm, rfl⟩ := Kd.R_slice hm
 have HL := ak hl
 have HM := ak hM
 have bl := ak hf
 have dg := ak ha
 have aZ := ak hs
 have ed := ak hp
 have bL := ak hm
 have HG := ak hg
 have ae := ak (Below.refl w.heap.size w)
 have HBASE := ak hbase
 have HLB := ak (b9 (aX b.addr b.aff b.slots (.slice Af b.free.length cf) (.slice Aa b.attrs.length ca)) (ag _ _ _ _ _ HL.out))
 have hno : (eP (cv a) && decide (bN x = b.addr)) = false := by rw [decide_eq_false hin, Bool.and_false]
 have e1 : pz b x (cv a) = false := by unfold pz; rw [hno, Bool.and_false]
 have e2 : qH b x (cv a) = 1 := by unfold qH; rw [if_neg (by rw [e1]; decide)]
 have e3 : nf b x (cv a) = jS := by unfold nf; rw [if_neg (by rw [e1]; decide)]
 have hat := fun v w h => nM b hg.ok x h0 h1 (cv a) v w h
 rw [e2, e3] at hat
 have hnl : jS.slots.length = 64 := rfl
 obtain ⟨nb, hnb⟩ : ∃ nb, nb = jS := ⟨_, rfl⟩
 rw [← hnb] at hat hnl
 have HNL := ak hnl
 have HAT := ak hat
 have HNB := ak hnb
 have HMY := ak (fun w => pc a e9 fB w)
 have HIN := ak (fun w h => tr b M As Ap Am cs cp cm w h x h0 h1)
 have HOF := ak (fun w h => pW b hl hg.ok.s8 (fun s hs => (hg.s0 s hs).2) M As Ap Am cs cp cm w h x h0 h1)
 rw [hma] at HMY
 rw [decide_eq_false hin] at HIN
 clear hma hno hin hl hM hf ha hs hp hm hg e1 e2 e3 hat hnl hnb hbase
 go_enter Try.func83, Try.ntmps83
 go_wp2_with (first
  | (refine aE rfl 57 (.tmp 0) rfl _ rfl ?_; intro gX W1 J aa I; have bS := ge ae J; have aj := ak (ae.out.trans (I.mono ae.out.size)); have bg := mv I bl; have cH := mv I dg; have bd := mv I aZ; have dc := mv I ed; have bG := mv I bL; have ah := ak (aa); clear J aa I ae bl dg aZ ed bL)
  | (refine aE rfl 62 (.tmp 1) rfl _ rfl ?_; intro gY W2 J aa I; have iZ := ge aj J; have fD := ne ah J; have aw := mv I aj; have bM := mv I bg; have dh := mv I cH; have bF := mv I bd; have dp := mv I dc; have cw := mv I bG; have au := mv I ah; have cr := ak (aa); clear J aa I aj bg cH bd dc bG ah)
  | (refine aE rfl 76 (.tmp 3) rfl _ rfl ?_; intro gA W3 J aa I; have kj := ge aw J; have eJ := ne au J; have wz := ne cr J; have aD := mv I aw; have cg := mv I bM; have dL := mv I dh; have b6 := mv I bF; have ec := mv I dp; have dq := ak (Kd.R_mono (ok' := fun k_ => True) (Kd.R_below cw.out I) (fun _ _ => trivial)); have aA := mv I au; have cE := mv I cr; have cR := ak (aa); clear J aa I aw bM dh bF dp cw au cr)
  | (refine ax (some 8) rfl rfl 57 rfl a7 bJ ?_; intro gZ W4 J aa I; have bO := ge aD J; have aG := ne aA J; have fP := ne cE J; have gh := ne cR J; have aW := mv I aD; have cd := mv I cg; have dB := mv I dL; have cP := mv I b6; have ey := mv I ec; have dw := mv I dq; have aV := mv I aA; have b5 := mv I cE; have dd := mv I cR; have bb := ak (aa); clear J aa I aD cg dL b6 ec dq aA cE cR)
  | (refine ax (some 9) rfl rfl 62 rfl dM (fun _ => by kernel_rfl) ?_; intro gU W5 J aa I; have fx := ge aW J; have gF := ne aV J; have dE := ne b5 J; have wA := ne dd J; have gE := ne bb J; have bf := mv I aW; have b8 := mv I cd; have cW := mv I dB; have cY := mv I cP; have er := mv I ey; have cQ := mv I dw; have a9 := mv I aV; have du := mv I b5; have eg := mv I dd; have bu := mv I bb; have ev := ak (aa); clear J aa I aW cd dB cP ey dw aV b5 dd bb))
 have ai : Below W5.heap.size W5 W5.drew := bp (Below.refl _ _)
 have bD := mv ai bf; have cI := mv ai b8; have dx := mv ai cW; have dm := mv ai cY; have ew := mv ai er; have dU := mv ai cQ; have bj := mv ai a9; have cN := mv ai du; have e6 := mv ai eg; have bT := mv ai bu; have dX := mv ai ev
 clear ai bf b8 cW cY er cQ a9 du eg bu ev
 have hB := bD
 have hF := cI
 have hG := dx
 have hS := dm
 have hP := ew
 have hM := dU
 have hX := bj
 have hY := cN
 have hA := e6
 have hZ := bT
 have hU := dX
 clear bD cI dx dm ew dU bj cN e6 bT dX
 refine da (n := 11) (S := fun w' => aH w' gX (aX b.addr b.aff b.slots (.slice Af b.free.length cf) (.slice Aa b.attrs.length ca)) 57 ∧ aH w' gA [.string a.f0, .string a.f1] 76) (ds := []) #[false, false, false, false, false, false, false, false, false, false, false] (by kernel_rfl) rfl rfl ⟨hX.out, hA.out⟩ (fun hHeld => ?_); refine bK nH.tab1 nH.bits1 (fun ab bq => ?_)
 refine tk 0 ab.out bq.out hHeld ?_ (hv := by exact fun _ aY => aJ 57 (.tmp 4) rfl gX rfl _ _ _ aY.1 Try.underlying57 rfl HLB.out)
 refine pu 1 ab.out ?_
 refine tk 2 ab.out bq.out hHeld ?_ (hv := by exact fun _ aY => aJ 76 (.tmp 7) rfl gA rfl _ _ _ aY.2 Try.underlying76 rfl (by kernel_rfl))
 refine oS (σ := Nat × Value) 2 #[true, true, true, true, true, true, true, true, true, false, false] (fun s => [(19, et (cv a)), (20, .tuple #[s.2, .int .i64 1]), (15, .tuple #[s.2, .int .i64 1]), (21, s.2), (22, .int .i64 1), (11, .pointer (some ⟨s.1, 0, none⟩))]) (fun s w' => Aside0 (Below w.heap.size w w') ∧ Aside0 (Kd.R (Kd.int .u8) 5 w' base (fun _ => True) (.slice Af b.free.length cf) b.free) ∧ Aside0 (Kd.R iR 85 w' base (fun _ => True) (.slice Aa b.attrs.length ca) b.attrs) ∧ Aside0 (Kd.R (Kd.int .i64) 3 w' base (fun _ => True) (.slice As b.slots.length cs) b.slots) ∧ Aside0 (Kd.R (Kd.int .i64) 3 w' base (fun _ => True) (.slice Ap b.free.length cp) b.free) ∧ Aside0 (Kd.R hH 76 w' base (fun _ => True) (.slice Am M.length cm) M) ∧ Aside0 (aH w' gX (aX b.addr b.aff b.slots (.slice Af b.free.length cf) (.slice Aa b.attrs.length ca)) 57) ∧ Aside0 (aH w' gY (dt b.addr b.aff (.slice As b.slots.length cs) (.slice Ap b.free.length cp) (.slice Am M.length cm)) 62) ∧ Aside0 (aH w' gA [.string a.f0, .string a.f1] 76) ∧ Aside0 (aH w' gZ a7 57) ∧ Aside0 (aH w' gU dM 62) ∧ Aside0 (aH w' s.1 a7 57) ∧ Aside0 (w.heap.size ≤ s.1) ∧ Aside0 (gX ≠ s.1) ∧ Aside0 (gZ ≠ s.1) ∧ Aside0 (ee w' base s.2 nb)) ?_ ?_
 rotate_left
 ·intro dZ
  refine tw 3 8 ab.out (fun K hK => ?_) (fun K hK => ?_)
  ·skip
   refine gs Try.func50 #[.agg #[.string a.f0, .string a.f1]] (jh a _) ?_
   rintro e V3 ⟨rfl, I⟩
   refine ⟨_, rfl, ?_⟩
   (try replace hV := mv I hV); (try replace hQ := mv I hQ); replace hB := mv I hB; replace hF := mv I hF; replace hG := mv I hG; replace hS := mv I hS; replace hP := mv I hP; replace hM := mv I hM; replace hX := mv I hX; replace hY := mv I hY; replace hA := mv I hA; replace hZ := mv I hZ; replace hU := mv I hU; clear  I
   refine kn hK ⟨hX.out, hA.out⟩ (fun hHeld => ?_)
   clear hK K
   refine tw 4 8 ab.out (fun K hK => ?_) (fun K hK => ?_)
   ·skip
    refine gs Try.func51 #[.agg (aX b.addr b.aff b.slots (.slice Af b.free.length cf) (.slice Aa b.attrs.length ca)).toArray, .int .u32 x, et (cv a)] (HAT.out _ _ ⟨_, _, _, _, rfl, ⟨HL.out, (rr hF).1, (rr hF).2, (rr hG).1, (rr hG).2⟩⟩) ?_
    rintro e V4 ⟨v_, rfl, aU, I⟩
    refine ⟨_, rfl, ?_⟩
    have hV := ak (aU.lower (lb HBASE hB)); (try replace hQ := mv I hQ); replace hB := mv I hB; replace hF := mv I hF; replace hG := mv I hG; replace hS := mv I hS; replace hP := mv I hP; replace hM := mv I hM; replace hX := mv I hX; replace hY := mv I hY; replace hA := mv I hA; replace hZ := mv I hZ; replace hU := mv I hU; clear aU I
    refine kn hK ⟨hX.out, hA.out⟩ (fun hHeld => ?_)
    clear hK K
    refine pu 5 ab.out ?_
    refine pu 6 ab.out ?_
    refine pu 7 ab.out ?_
    refine on 8 ab.out (fun K hK => ?_)
    refine dz (by rfl) 57 rfl a7 bJ ?_
    intro gQ V8 J aa I
    have cz := ge hB J
    have bk := ne hX J
    have a8 := ne hZ J
    (try replace hV := mv I hV)
    replace hB := mv I hB
    replace hF := mv I hF
    replace hG := mv I hG
    replace hS := mv I hS
    replace hP := mv I hP
    replace hM := mv I hM
    replace hX := mv I hX
    replace hY := mv I hY
    replace hA := mv I hA
    replace hZ := mv I hZ
    replace hU := mv I hU
    have hQ := ak aa
    clear J aa I
    refine kn hK ⟨hX.out, hA.out⟩ (fun hHeld => ?_)
    clear hK K
    exact nc (dZ ⟨gQ, v_⟩ _ ⟨hB, hF, hG, hS, hP, hM, hX, hY, hA, hZ, hU, hQ, cz, bk, a8, hV⟩)
   ·skip
    refine dz (by rfl) 57 rfl a7 bJ ?_
    intro gQ V8 J aa I
    have cz := ge hB J
    have bk := ne hX J
    have a8 := ne hZ J
    (try replace hV := mv I hV)
    replace hB := mv I hB
    replace hF := mv I hF
    replace hG := mv I hG
    replace hS := mv I hS
    replace hP := mv I hP
    replace hM := mv I hM
    replace hX := mv I hX
    replace hY := mv I hY
    replace hA := mv I hA
    replace hZ := mv I hZ
    replace hU := mv I hU
    have hQ := ak aa
    clear J aa I
    refine kn hK ⟨hX.out, hA.out⟩ (fun hHeld => ?_)
    clear hK K
    refine on 4 ab.out (fun K hK => ?_)
    refine gs Try.func51 #[.agg (aX b.addr b.aff b.slots (.slice Af b.free.length cf) (.slice Aa b.attrs.length ca)).toArray, .int .u32 x, et (cv a)] (HAT.out _ _ ⟨_, _, _, _, rfl, ⟨HL.out, (rr hF).1, (rr hF).2, (rr hG).1, (rr hG).2⟩⟩) ?_
    rintro e V4 ⟨v_, rfl, aU, I⟩
    refine ⟨_, rfl, ?_⟩
    have hV := ak (aU.lower (lb HBASE hB)); (try replace hQ := mv I hQ); replace hB := mv I hB; replace hF := mv I hF; replace hG := mv I hG; replace hS := mv I hS; replace hP := mv I hP; replace hM := mv I hM; replace hX := mv I hX; replace hY := mv I hY; replace hA := mv I hA; replace hZ := mv I hZ; replace hU := mv I hU; clear aU I
    refine kn hK ⟨hX.out, hA.out⟩ (fun hHeld => ?_)
    clear hK K
    refine pu 5 ab.out ?_
    refine pu 6 ab.out ?_
    refine pu 7 ab.out ?_
    exact nc (dZ ⟨gQ, v_⟩ _ ⟨hB, hF, hG, hS, hP, hM, hX, hY, hA, hZ, hU, hQ, cz, bk, a8, hV⟩)
  ·skip
   refine dz (by rfl) 57 rfl a7 bJ ?_
   intro gQ V8 J aa I
   have cz := ge hB J
   have bk := ne hX J
   have a8 := ne hZ J
   (try replace hV := mv I hV)
   replace hB := mv I hB
   replace hF := mv I hF
   replace hG := mv I hG
   replace hS := mv I hS
   replace hP := mv I hP
   replace hM := mv I hM
   replace hX := mv I hX
   replace hY := mv I hY
   replace hA := mv I hA
   replace hZ := mv I hZ
   replace hU := mv I hU
   have hQ := ak aa
   clear J aa I
   refine kn hK ⟨hX.out, hA.out⟩ (fun hHeld => ?_)
   clear hK K
   refine on 3 ab.out (fun K hK => ?_)
   refine gs Try.func50 #[.agg #[.string a.f0, .string a.f1]] (jh a _) ?_
   rintro e V3 ⟨rfl, I⟩
   refine ⟨_, rfl, ?_⟩
   (try replace hV := mv I hV); (try replace hQ := mv I hQ); replace hB := mv I hB; replace hF := mv I hF; replace hG := mv I hG; replace hS := mv I hS; replace hP := mv I hP; replace hM := mv I hM; replace hX := mv I hX; replace hY := mv I hY; replace hA := mv I hA; replace hZ := mv I hZ; replace hU := mv I hU; clear  I
   refine kn hK ⟨hX.out, hA.out⟩ (fun hHeld => ?_)
   clear hK K
   refine on 4 ab.out (fun K hK => ?_)
   refine gs Try.func51 #[.agg (aX b.addr b.aff b.slots (.slice Af b.free.length cf) (.slice Aa b.attrs.length ca)).toArray, .int .u32 x, et (cv a)] (HAT.out _ _ ⟨_, _, _, _, rfl, ⟨HL.out, (rr hF).1, (rr hF).2, (rr hG).1, (rr hG).2⟩⟩) ?_
   rintro e V4 ⟨v_, rfl, aU, I⟩
   refine ⟨_, rfl, ?_⟩
   have hV := ak (aU.lower (lb HBASE hB)); (try replace hQ := mv I hQ); replace hB := mv I hB; replace hF := mv I hF; replace hG := mv I hG; replace hS := mv I hS; replace hP := mv I hP; replace hM := mv I hM; replace hX := mv I hX; replace hY := mv I hY; replace hA := mv I hA; replace hZ := mv I hZ; replace hU := mv I hU; clear aU I
   refine kn hK ⟨hX.out, hA.out⟩ (fun hHeld => ?_)
   clear hK K
   refine pu 5 ab.out ?_
   refine pu 6 ab.out ?_
   refine pu 7 ab.out ?_
   exact nc (dZ ⟨gQ, v_⟩ _ ⟨hB, hF, hG, hS, hP, hM, hX, hY, hA, hZ, hU, hQ, cz, bk, a8, hV⟩)
 intro s w' hFF; obtain ⟨gQ, v_⟩ := s; simp only at hFF; obtain ⟨hB, hF, hG, hS, hP, hM, hX, hY, hA, hZ, hU, hQ, cz, bk, a8, hV⟩ := hFF; have aU := hV.out; obtain ⟨gR, nE, nF, rfl, cV, dA⟩ := aU; obtain ⟨A8, c8, rfl⟩ := Kd.R_slice cV; obtain ⟨A9, c9, rfl⟩ := Kd.R_slice dA; have hC := ak cV; have hD := ak dA; clear hV gR cV dA
 refine nj ?_
 refine ow 9 ab.out (fun K hK => ?_)
 refine bz (by rfl) rfl 57 (.tmp 11) (.tmp 21) rfl gQ (aX nb.addr nb.aff nb.slots (.slice A8 nb.free.length c8) (.slice A9 nb.attrs.length c9)) rfl rfl 57 _ hQ.out 68 (by kernel_rfl) (ag _ _ _ _ _ HNL.out) rfl (bZ _ _ _ _ _ rfl rfl) ?_
 intro V9 aa J; replace hB := gb hB cz J; replace hF := gr hF hQ J; replace hG := gr hG hQ J; replace hS := gr hS hQ J; replace hP := gr hP hQ J; replace hM := gr hM hQ J; replace hX := gn hX bk J; replace hY := gx hY hQ J; replace hA := gx hA hQ J; replace hZ := gn hZ a8 J; replace hU := gx hU hQ J; replace hC := gr hC hQ J; replace hD := gr hD hQ J; replace hQ := ak (aa); clear aa J
 refine hK.out _ _ ⟨hX.out, hA.out⟩ (fun hHeld => ?_)
 clear hK K
 refine pu 10 ab.out ?_
 refine dn ab.out ?_
 clear hHeld
 have HLN := ak (b9 (aX nb.addr nb.aff nb.slots (.slice A8 nb.free.length c8) (.slice A9 nb.attrs.length c9)) (ag _ _ _ _ _ HNL.out))
 have HZR := ak (fun v w h => oy v w (by rw [← HNB.out]; exact h))
 go_wp2_with (first
  | ((with_reducible refine av (N := 23) rfl ?_); refine ay rfl 76 (.tmp 7) rfl gA rfl _ _ _ hA.out Try.underlying76 rfl 2 (by kernel_rfl) rfl ?_)
  | (go_at_call 60; refine (HMY.out _).mono ?_; rintro e qJ ⟨rfl, I⟩; have iL := mv I hB; have ju := mv I hF; have js := mv I hG; have ie := mv I hS; have ig := mv I hP; have ij := mv I hM; have jn := mv I hX; have ic := mv I hY; have ot := mv I hA; have jm := mv I hZ; have jo := mv I hU; have jq := mv I hQ; have jy := mv I hC; have jw := mv I hD; clear I hB hF hG hS hP hM hX hY hA hZ hU hQ hC hD)
  | ((with_reducible refine av (N := 27) rfl ?_); refine fo (by rfl) ?_; refine ay rfl 62 (.tmp 5) rfl gY rfl _ _ _ ic.out Try.underlying62 rfl 5 (by kernel_rfl) rfl ?_)
  | (go_at_call 100; refine (HIN.out _ (jZ.of HM.out ie.out ig.out ij.out)).mono ?_; rintro e DH ⟨rfl, I⟩; have iY := mv I iL; have jt := mv I ju; have jr := mv I js; have iI := mv I ie; have iJ := mv I ig; have iK := mv I ij; have iU := mv I jn; have iy := mv I ic; have oq := mv I ot; have iT := mv I jm; have iW := mv I jo; have iX := mv I jq; have jx := mv I jy; have jv := mv I jw; clear I iL ju js ie ig ij jn ic ot jm jo jq jy jw))
 have ai : Below DH.heap.size DH DH.drew := bp (Below.refl _ _)
 have mA := mv ai iY; have n9 := mv ai jt; have n8 := mv ai jr; have nX := mv ai iI; have n5 := mv ai iJ; have n6 := mv ai iK; have mu := mv ai iU; have mr := mv ai iy; have oZ := mv ai oq; have mq := mv ai iT; have my := mv ai iW; have mz := mv ai iX; have om := mv ai jx; have oc := mv ai jv
 clear ai iY jt jr iI iJ iK iU iy oq iT iW iX jx jv
 have hB := mA
 have hF := n9
 have hG := n8
 have hS := nX
 have hP := n5
 have hM := n6
 have hX := mu
 have hY := mr
 have hA := oZ
 have hZ := mq
 have hU := my
 have hQ := mz
 have hC := om
 have hD := oc
 clear mA n9 n8 nX n5 n6 mu mr oZ mq my mz om oc
 refine da (n := 11) (S := fun w' => aH w' gX (aX b.addr b.aff b.slots (.slice Af b.free.length cf) (.slice Aa b.attrs.length ca)) 57 ∧ aH w' gY (dt b.addr b.aff (.slice As b.slots.length cs) (.slice Ap b.free.length cp) (.slice Am M.length cm)) 62 ∧ aH w' gQ (aX nb.addr nb.aff nb.slots (.slice A8 nb.free.length c8) (.slice A9 nb.attrs.length c9)) 57) (ds := []) #[false, false, false, false, false, false, false, false, false, false, false] (by kernel_rfl) rfl rfl ⟨hX.out, hY.out, hQ.out⟩ (fun hHeld => ?_); refine bK sw.tab3 sw.bits3 (fun ab bq => ?_)
 refine tk 0 ab.out bq.out hHeld ?_ (hv := by exact fun _ aY => aJ 57 (.tmp 4) rfl gX rfl _ _ _ aY.1 Try.underlying57 rfl HLB.out)
 refine tk 1 ab.out bq.out hHeld ?_ (hv := by exact fun _ aY => aJ 62 (.tmp 5) rfl gY rfl _ _ _ aY.2.1 Try.underlying62 rfl (by kernel_rfl))
 refine pu 2 ab.out ?_
 refine pu 3 ab.out ?_
 refine pu 4 ab.out ?_
 refine tk 5 ab.out bq.out hHeld ?_ (hv := by exact fun _ aY => aJ 57 (.tmp 11) rfl gQ rfl _ _ _ aY.2.2 Try.underlying57 rfl HLN.out)
 refine on 6 ab.out (fun K hK => ?_)
 refine gs Try.func43 #[.agg (aX nb.addr nb.aff nb.slots (.slice A8 nb.free.length c8) (.slice A9 nb.attrs.length c9)).toArray] (HZR.out _ _ ⟨_, _, _, _, rfl, ⟨HNL.out, (rr hC).1, (rr hC).2, (rr hD).1, (rr hD).2⟩⟩) ?_
 rintro e V6 ⟨rfl, I⟩
 refine ⟨_, rfl, ?_⟩
 replace hB := mv I hB; replace hF := mv I hF; replace hG := mv I hG; replace hS := mv I hS; replace hP := mv I hP; replace hM := mv I hM; replace hX := mv I hX; replace hY := mv I hY; replace hA := mv I hA; replace hZ := mv I hZ; replace hU := mv I hU; replace hQ := mv I hQ; replace hC := mv I hC; replace hD := mv I hD
 refine kn hK ⟨hX.out, hY.out, hQ.out⟩ (fun hHeld => ?_)
 clear hK K
 refine pu 7 ab.out ?_
 refine ow 8 ab.out (fun K hK => ?_)
 refine bz (by rfl) rfl 57 (.tmp 8) (.tmp 32) rfl gZ (aX b.addr b.aff b.slots (.slice Af b.free.length cf) (.slice Aa b.attrs.length ca)) rfl rfl 57 _ hZ.out 68 (by kernel_rfl) (ag _ _ _ _ _ HL.out) rfl (bZ _ _ _ _ _ rfl rfl) ?_
 intro V8 aa J; replace hB := gb hB bO J; replace hF := gr hF hZ J; replace hG := gr hG hZ J; replace hS := gr hS hZ J; replace hP := gr hP hZ J; replace hM := gr hM hZ J; replace hX := gn hX aG J; replace hY := gx hY hZ J; replace hA := gx hA hZ J; replace hU := gx hU hZ J; replace hQ := gm hQ a8 J; replace hC := gr hC hZ J; replace hD := gr hD hZ J; replace hZ := ak (aa); clear aa J
 refine hK.out _ _ ⟨hX.out, hY.out, hQ.out⟩ (fun hHeld => ?_)
 clear hK K
 refine ow 9 ab.out (fun K hK => ?_)
 refine bz (by rfl) rfl 62 (.tmp 9) (.tmp 33) rfl gU (dt b.addr b.aff (.slice As b.slots.length cs) (.slice Ap b.free.length cp) (.slice Am M.length cm)) rfl rfl 62 _ hU.out 5 (by kernel_rfl) rfl rfl (dO _ _ rfl rfl rfl) ?_
 intro V9 aa J; replace hB := gb hB fx J; replace hF := gr hF hU J; replace hG := gr hG hU J; replace hS := gr hS hU J; replace hP := gr hP hU J; replace hM := gr hM hU J; replace hX := gx hX hU J; replace hY := gn hY dE J; replace hA := gx hA hU J; replace hZ := gx hZ hU J; replace hQ := gx hQ hU J; replace hC := gr hC hU J; replace hD := gr hD hU J; replace hU := ak (aa); clear aa J
 refine hK.out _ _ ⟨hX.out, hY.out, hQ.out⟩ (fun hHeld => ?_)
 clear hK K
 refine pu 10 ab.out ?_
 refine dn ab.out ?_
 clear hHeld
 go_wp2_with fail
 refine bodyPost_ret (eT rfl _ _ _ gZ gU 57 62 _ _ _ _ rfl hZ.out rfl Try.underlying57 (by first | exact HLB.out | exact HLN.out) rfl hU.out rfl Try.underlying62 (by kernel_rfl)) rfl ⟨_, _, b, rfl, ?_, ?_, ?_, hB.out⟩
 ·exact HG.out
 ·exact ⟨HL.out, _, _, rfl, hF.out, hG.out⟩
 ·exact ⟨_, _, _, rfl, hS.out, hP.out, by rw [← HM.out]; exact hM.out⟩
set_option maxHeartbeats 16000000 in
set_option maxRecDepth 100000 in
theorem zX (b : Bk) (hg : RG b) (x : Int) (h0 : 0 ≤ x) (h1 : x < 4294967296) (a : kD) (e9 : a.f0.size ≤ 9223372036854775807) (fB : a.f1.size ≤ 9223372036854775807) (hma : eP (cv a) = true) (hin : bN x = b.addr) (hh : fy b x = true) (v v2 : Value) (w : World) (base : Nat) (hbase : base ≤ w.heap.size) (hO : ee w base v b) (hR : eM w base v2 b) :
  Calls Try.prog 83 #[v, v2, .int .u32 x, .agg #[.string a.f0, .string a.f1]] w fun e w' => ∃ v1 v2 b', e = .returned (.tuple #[v1, v2, .bool true]) ∧ RG b' ∧ ee w' base v1 b' ∧ eM w' base v2 b' ∧ Below w.heap.size w w' := by
 obtain ⟨hl, vf, va, rfl, hf, ha⟩ := hO
 obtain ⟨vs, vp, vm, rfl, hs, hp, hm⟩ := hR
 obtain ⟨Af, cf, rfl⟩ := Kd.R_slice hf
 obtain ⟨Aa, ca, rfl⟩ := Kd.R_slice ha
 obtain ⟨As, cs, rfl⟩ := Kd.R_slice hs
 obtain ⟨Ap, cp, rfl⟩ := Kd.R_slice hp
 obtain ⟨M, hM⟩ : ∃ M, M = b.attrs.map vc := ⟨_, rfl⟩
 rw [← hM] at hm
 obtain ⟨Am, cm, rfl⟩ := Kd.R_slice hm
 have HL := ak hl
 have HM := ak hM
 have bl := ak hf
 have dg := ak ha
 have aZ := ak hs
 have ed := ak hp
 have bL := ak hm
 have HG := ak hg
 have ae := ak (Below.refl w.heap.size w)
 have HBASE := ak hbase
 have HLB := ak (b9 (aX b.addr b.aff b.slots (.slice Af b.free.length cf) (.slice Aa b.attrs.length ca)) (ag _ _ _ _ _ HL.out))
 have e0 : oH b x = true := by unfold fy at hh; rw [decide_eq_true hin, Bool.true_and] at hh; exact hh
 have e1 : pz b x (cv a) = true := by unfold pz; rw [hg.right, hma, decide_eq_true hin]; rfl
 have e2 : qH b x (cv a) = 11 := by unfold qH; rw [if_pos e1, if_pos e0]
 have e3 : nf b x (cv a) = jS := by unfold nf; rw [if_pos e1, if_pos e0]
 have hat := fun v w h => nM b hg.ok x h0 h1 (cv a) v w h
 rw [e2, e3] at hat
 have hnl : jS.slots.length = 64 := rfl
 obtain ⟨nb, hnb⟩ : ∃ nb, nb = jS := ⟨_, rfl⟩
 rw [← hnb] at hat hnl
 have HNL := ak hnl
 have HAT := ak hat
 have HNB := ak hnb
 have HMY := ak (fun w => pc a e9 fB w)
 have HIN := ak (fun w h => tr b M As Ap Am cs cp cm w h x h0 h1)
 have HOF := ak (fun w h => pW b hl hg.ok.s8 (fun s hs => (hg.s0 s hs).2) M As Ap Am cs cp cm w h x h0 h1)
 rw [hma] at HMY
 rw [decide_eq_true hin] at HIN
 rw [hh] at HOF
 clear hma hin hh e0 hl hM hf ha hs hp hm hg e1 e2 e3 hat hnl hnb hbase
 go_enter Try.func83, Try.ntmps83
 go_wp2_with (first
  | (refine aE rfl 57 (.tmp 0) rfl _ rfl ?_; intro gX W1 J aa I; have bS := ge ae J; have aj := ak (ae.out.trans (I.mono ae.out.size)); have bg := mv I bl; have cH := mv I dg; have bd := mv I aZ; have dc := mv I ed; have bG := mv I bL; have ah := ak (aa); clear J aa I ae bl dg aZ ed bL)
  | (refine aE rfl 62 (.tmp 1) rfl _ rfl ?_; intro gY W2 J aa I; have iZ := ge aj J; have fD := ne ah J; have aw := mv I aj; have bM := mv I bg; have dh := mv I cH; have bF := mv I bd; have dp := mv I dc; have cw := mv I bG; have au := mv I ah; have cr := ak (aa); clear J aa I aj bg cH bd dc bG ah)
  | (refine aE rfl 76 (.tmp 3) rfl _ rfl ?_; intro gA W3 J aa I; have kj := ge aw J; have eJ := ne au J; have wz := ne cr J; have aD := mv I aw; have cg := mv I bM; have dL := mv I dh; have b6 := mv I bF; have ec := mv I dp; have dq := ak (Kd.R_mono (ok' := fun k_ => True) (Kd.R_below cw.out I) (fun _ _ => trivial)); have aA := mv I au; have cE := mv I cr; have cR := ak (aa); clear J aa I aw bM dh bF dp cw au cr)
  | (refine ax (some 8) rfl rfl 57 rfl a7 bJ ?_; intro gZ W4 J aa I; have bO := ge aD J; have aG := ne aA J; have fP := ne cE J; have gh := ne cR J; have aW := mv I aD; have cd := mv I cg; have dB := mv I dL; have cP := mv I b6; have ey := mv I ec; have dw := mv I dq; have aV := mv I aA; have b5 := mv I cE; have dd := mv I cR; have bb := ak (aa); clear J aa I aD cg dL b6 ec dq aA cE cR)
  | (refine ax (some 9) rfl rfl 62 rfl dM (fun _ => by kernel_rfl) ?_; intro gU W5 J aa I; have fx := ge aW J; have gF := ne aV J; have dE := ne b5 J; have wA := ne dd J; have gE := ne bb J; have bf := mv I aW; have b8 := mv I cd; have cW := mv I dB; have cY := mv I cP; have er := mv I ey; have cQ := mv I dw; have a9 := mv I aV; have du := mv I b5; have eg := mv I dd; have bu := mv I bb; have ev := ak (aa); clear J aa I aW cd dB cP ey dw aV b5 dd bb))
 have ai : Below W5.heap.size W5 W5.drew := bp (Below.refl _ _)
 have bD := mv ai bf; have cI := mv ai b8; have dx := mv ai cW; have dm := mv ai cY; have ew := mv ai er; have dU := mv ai cQ; have bj := mv ai a9; have cN := mv ai du; have e6 := mv ai eg; have bT := mv ai bu; have dX := mv ai ev
 clear ai bf b8 cW cY er cQ a9 du eg bu ev
 have hB := bD
 have hF := cI
 have hG := dx
 have hS := dm
 have hP := ew
 have hM := dU
 have hX := bj
 have hY := cN
 have hA := e6
 have hZ := bT
 have hU := dX
 clear bD cI dx dm ew dU bj cN e6 bT dX
 refine da (n := 11) (S := fun w' => aH w' gX (aX b.addr b.aff b.slots (.slice Af b.free.length cf) (.slice Aa b.attrs.length ca)) 57 ∧ aH w' gA [.string a.f0, .string a.f1] 76) (ds := []) #[false, false, false, false, false, false, false, false, false, false, false] (by kernel_rfl) rfl rfl ⟨hX.out, hA.out⟩ (fun hHeld => ?_); refine bK nH.tab1 nH.bits1 (fun ab bq => ?_)
 refine tk 0 ab.out bq.out hHeld ?_ (hv := by exact fun _ aY => aJ 57 (.tmp 4) rfl gX rfl _ _ _ aY.1 Try.underlying57 rfl HLB.out)
 refine pu 1 ab.out ?_
 refine tk 2 ab.out bq.out hHeld ?_ (hv := by exact fun _ aY => aJ 76 (.tmp 7) rfl gA rfl _ _ _ aY.2 Try.underlying76 rfl (by kernel_rfl))
 refine oS (σ := Nat × Value) 2 #[true, true, true, true, true, true, true, true, true, false, false] (fun s => [(19, et (cv a)), (20, .tuple #[s.2, .int .i64 11]), (15, .tuple #[s.2, .int .i64 11]), (21, s.2), (22, .int .i64 11), (11, .pointer (some ⟨s.1, 0, none⟩))]) (fun s w' => Aside0 (Below w.heap.size w w') ∧ Aside0 (Kd.R (Kd.int .u8) 5 w' base (fun _ => True) (.slice Af b.free.length cf) b.free) ∧ Aside0 (Kd.R iR 85 w' base (fun _ => True) (.slice Aa b.attrs.length ca) b.attrs) ∧ Aside0 (Kd.R (Kd.int .i64) 3 w' base (fun _ => True) (.slice As b.slots.length cs) b.slots) ∧ Aside0 (Kd.R (Kd.int .i64) 3 w' base (fun _ => True) (.slice Ap b.free.length cp) b.free) ∧ Aside0 (Kd.R hH 76 w' base (fun _ => True) (.slice Am M.length cm) M) ∧ Aside0 (aH w' gX (aX b.addr b.aff b.slots (.slice Af b.free.length cf) (.slice Aa b.attrs.length ca)) 57) ∧ Aside0 (aH w' gY (dt b.addr b.aff (.slice As b.slots.length cs) (.slice Ap b.free.length cp) (.slice Am M.length cm)) 62) ∧ Aside0 (aH w' gA [.string a.f0, .string a.f1] 76) ∧ Aside0 (aH w' gZ a7 57) ∧ Aside0 (aH w' gU dM 62) ∧ Aside0 (aH w' s.1 a7 57) ∧ Aside0 (w.heap.size ≤ s.1) ∧ Aside0 (gX ≠ s.1) ∧ Aside0 (gZ ≠ s.1) ∧ Aside0 (ee w' base s.2 nb)) ?_ ?_
 rotate_left
 ·intro dZ
  refine tw 3 8 ab.out (fun K hK => ?_) (fun K hK => ?_)
  ·skip
   refine gs Try.func50 #[.agg #[.string a.f0, .string a.f1]] (jh a _) ?_
   rintro e V3 ⟨rfl, I⟩
   refine ⟨_, rfl, ?_⟩
   (try replace hV := mv I hV); (try replace hQ := mv I hQ); replace hB := mv I hB; replace hF := mv I hF; replace hG := mv I hG; replace hS := mv I hS; replace hP := mv I hP; replace hM := mv I hM; replace hX := mv I hX; replace hY := mv I hY; replace hA := mv I hA; replace hZ := mv I hZ; replace hU := mv I hU; clear  I
   refine kn hK ⟨hX.out, hA.out⟩ (fun hHeld => ?_)
   clear hK K
   refine tw 4 8 ab.out (fun K hK => ?_) (fun K hK => ?_)
   ·skip
    refine gs Try.func51 #[.agg (aX b.addr b.aff b.slots (.slice Af b.free.length cf) (.slice Aa b.attrs.length ca)).toArray, .int .u32 x, et (cv a)] (HAT.out _ _ ⟨_, _, _, _, rfl, ⟨HL.out, (rr hF).1, (rr hF).2, (rr hG).1, (rr hG).2⟩⟩) ?_
    rintro e V4 ⟨v_, rfl, aU, I⟩
    refine ⟨_, rfl, ?_⟩
    have hV := ak (aU.lower (lb HBASE hB)); (try replace hQ := mv I hQ); replace hB := mv I hB; replace hF := mv I hF; replace hG := mv I hG; replace hS := mv I hS; replace hP := mv I hP; replace hM := mv I hM; replace hX := mv I hX; replace hY := mv I hY; replace hA := mv I hA; replace hZ := mv I hZ; replace hU := mv I hU; clear aU I
    refine kn hK ⟨hX.out, hA.out⟩ (fun hHeld => ?_)
    clear hK K
    refine pu 5 ab.out ?_
    refine pu 6 ab.out ?_
    refine pu 7 ab.out ?_
    refine on 8 ab.out (fun K hK => ?_)
    refine dz (by rfl) 57 rfl a7 bJ ?_
    intro gQ V8 J aa I
    have cz := ge hB J
    have bk := ne hX J
    have a8 := ne hZ J
    (try replace hV := mv I hV)
    replace hB := mv I hB
    replace hF := mv I hF
    replace hG := mv I hG
    replace hS := mv I hS
    replace hP := mv I hP
    replace hM := mv I hM
    replace hX := mv I hX
    replace hY := mv I hY
    replace hA := mv I hA
    replace hZ := mv I hZ
    replace hU := mv I hU
    have hQ := ak aa
    clear J aa I
    refine kn hK ⟨hX.out, hA.out⟩ (fun hHeld => ?_)
    clear hK K
    exact nc (dZ ⟨gQ, v_⟩ _ ⟨hB, hF, hG, hS, hP, hM, hX, hY, hA, hZ, hU, hQ, cz, bk, a8, hV⟩)
   ·skip
    refine dz (by rfl) 57 rfl a7 bJ ?_
    intro gQ V8 J aa I
    have cz := ge hB J
    have bk := ne hX J
    have a8 := ne hZ J
    (try replace hV := mv I hV)
    replace hB := mv I hB
    replace hF := mv I hF
    replace hG := mv I hG
    replace hS := mv I hS
    replace hP := mv I hP
    replace hM := mv I hM
    replace hX := mv I hX
    replace hY := mv I hY
    replace hA := mv I hA
    replace hZ := mv I hZ
    replace hU := mv I hU
    have hQ := ak aa
    clear J aa I
    refine kn hK ⟨hX.out, hA.out⟩ (fun hHeld => ?_)
    clear hK K
    refine on 4 ab.out (fun K hK => ?_)
    refine gs Try.func51 #[.agg (aX b.addr b.aff b.slots (.slice Af b.free.length cf) (.slice Aa b.attrs.length ca)).toArray, .int .u32 x, et (cv a)] (HAT.out _ _ ⟨_, _, _, _, rfl, ⟨HL.out, (rr hF).1, (rr hF).2, (rr hG).1, (rr hG).2⟩⟩) ?_
    rintro e V4 ⟨v_, rfl, aU, I⟩
    refine ⟨_, rfl, ?_⟩
    have hV := ak (aU.lower (lb HBASE hB)); (try replace hQ := mv I hQ); replace hB := mv I hB; replace hF := mv I hF; replace hG := mv I hG; replace hS := mv I hS; replace hP := mv I hP; replace hM := mv I hM; replace hX := mv I hX; replace hY := mv I hY; replace hA := mv I hA; replace hZ := mv I hZ; replace hU := mv I hU; clear aU I
    refine kn hK ⟨hX.out, hA.out⟩ (fun hHeld => ?_)
    clear hK K
    refine pu 5 ab.out ?_
    refine pu 6 ab.out ?_
    refine pu 7 ab.out ?_
    exact nc (dZ ⟨gQ, v_⟩ _ ⟨hB, hF, hG, hS, hP, hM, hX, hY, hA, hZ, hU, hQ, cz, bk, a8, hV⟩)
  ·skip
   refine dz (by rfl) 57 rfl a7 bJ ?_
   intro gQ V8 J aa I
   have cz := ge hB J
   have bk := ne hX J
   have a8 := ne hZ J
   (try replace hV := mv I hV)
   replace hB := mv I hB
   replace hF := mv I hF
   replace hG := mv I hG
   replace hS := mv I hS
   replace hP := mv I hP
   replace hM := mv I hM
   replace hX := mv I hX
   replace hY := mv I hY
   replace hA := mv I hA
   replace hZ := mv I hZ
   replace hU := mv I hU
   have hQ := ak aa
   clear J aa I
   refine kn hK ⟨hX.out, hA.out⟩ (fun hHeld => ?_)
   clear hK K
   refine on 3 ab.out (fun K hK => ?_)
   refine gs Try.func50 #[.agg #[.string a.f0, .string a.f1]] (jh a _) ?_
   rintro e V3 ⟨rfl, I⟩
   refine ⟨_, rfl, ?_⟩
   (try replace hV := mv I hV); (try replace hQ := mv I hQ); replace hB := mv I hB; replace hF := mv I hF; replace hG := mv I hG; replace hS := mv I hS; replace hP := mv I hP; replace hM := mv I hM; replace hX := mv I hX; replace hY := mv I hY; replace hA := mv I hA; replace hZ := mv I hZ; replace hU := mv I hU; clear  I
   refine kn hK ⟨hX.out, hA.out⟩ (fun hHeld => ?_)
   clear hK K
   refine on 4 ab.out (fun K hK => ?_)
   refine gs Try.func51 #[.agg (aX b.addr b.aff b.slots (.slice Af b.free.length cf) (.slice Aa b.attrs.length ca)).toArray, .int .u32 x, et (cv a)] (HAT.out _ _ ⟨_, _, _, _, rfl, ⟨HL.out, (rr hF).1, (rr hF).2, (rr hG).1, (rr hG).2⟩⟩) ?_
   rintro e V4 ⟨v_, rfl, aU, I⟩
   refine ⟨_, rfl, ?_⟩
   have hV := ak (aU.lower (lb HBASE hB)); (try replace hQ := mv I hQ); replace hB := mv I hB; replace hF := mv I hF; replace hG := mv I hG; replace hS := mv I hS; replace hP := mv I hP; replace hM := mv I hM; replace hX := mv I hX; replace hY := mv I hY; replace hA := mv I hA; replace hZ := mv I hZ; replace hU := mv I hU; clear aU I
   refine kn hK ⟨hX.out, hA.out⟩ (fun hHeld => ?_)
   clear hK K
   refine pu 5 ab.out ?_
   refine pu 6 ab.out ?_
   refine pu 7 ab.out ?_
   exact nc (dZ ⟨gQ, v_⟩ _ ⟨hB, hF, hG, hS, hP, hM, hX, hY, hA, hZ, hU, hQ, cz, bk, a8, hV⟩)
 intro s w' hFF; obtain ⟨gQ, v_⟩ := s; simp only at hFF; obtain ⟨hB, hF, hG, hS, hP, hM, hX, hY, hA, hZ, hU, hQ, cz, bk, a8, hV⟩ := hFF; have aU := hV.out; obtain ⟨gR, nE, nF, rfl, cV, dA⟩ := aU; obtain ⟨A8, c8, rfl⟩ := Kd.R_slice cV; obtain ⟨A9, c9, rfl⟩ := Kd.R_slice dA; have hC := ak cV; have hD := ak dA; clear hV gR cV dA
 refine nj ?_
 refine ow 9 ab.out (fun K hK => ?_)
 refine bz (by rfl) rfl 57 (.tmp 11) (.tmp 21) rfl gQ (aX nb.addr nb.aff nb.slots (.slice A8 nb.free.length c8) (.slice A9 nb.attrs.length c9)) rfl rfl 57 _ hQ.out 68 (by kernel_rfl) (ag _ _ _ _ _ HNL.out) rfl (bZ _ _ _ _ _ rfl rfl) ?_
 intro V9 aa J; replace hB := gb hB cz J; replace hF := gr hF hQ J; replace hG := gr hG hQ J; replace hS := gr hS hQ J; replace hP := gr hP hQ J; replace hM := gr hM hQ J; replace hX := gn hX bk J; replace hY := gx hY hQ J; replace hA := gx hA hQ J; replace hZ := gn hZ a8 J; replace hU := gx hU hQ J; replace hC := gr hC hQ J; replace hD := gr hD hQ J; replace hQ := ak (aa); clear aa J
 refine hK.out _ _ ⟨hX.out, hA.out⟩ (fun hHeld => ?_)
 clear hK K
 refine pu 10 ab.out ?_
 refine dn ab.out ?_
 clear hHeld
 have HLN := ak (b9 (aX nb.addr nb.aff nb.slots (.slice A8 nb.free.length c8) (.slice A9 nb.attrs.length c9)) (ag _ _ _ _ _ HNL.out))
 have HZR := ak (fun v w h => oy v w (by rw [← HNB.out]; exact h))
 go_wp2_with (first
  | ((with_reducible refine av (N := 23) rfl ?_); refine ay rfl 76 (.tmp 7) rfl gA rfl _ _ _ hA.out Try.underlying76 rfl 2 (by kernel_rfl) rfl ?_)
  | (go_at_call 60; refine (HMY.out _).mono ?_; rintro e qJ ⟨rfl, I⟩; have iL := mv I hB; have ju := mv I hF; have js := mv I hG; have ie := mv I hS; have ig := mv I hP; have ij := mv I hM; have jn := mv I hX; have ic := mv I hY; have ot := mv I hA; have jm := mv I hZ; have jo := mv I hU; have jq := mv I hQ; have jy := mv I hC; have jw := mv I hD; clear I hB hF hG hS hP hM hX hY hA hZ hU hQ hC hD)
  | ((with_reducible refine av (N := 27) rfl ?_); refine fo (by rfl) ?_; refine ay rfl 62 (.tmp 5) rfl gY rfl _ _ _ ic.out Try.underlying62 rfl 5 (by kernel_rfl) rfl ?_)
  | (go_at_call 100; refine (HIN.out _ (jZ.of HM.out ie.out ig.out ij.out)).mono ?_; rintro e DH ⟨rfl, I⟩; have iY := mv I iL; have jt := mv I ju; have jr := mv I js; have iI := mv I ie; have iJ := mv I ig; have iK := mv I ij; have iU := mv I jn; have iy := mv I ic; have oq := mv I ot; have iT := mv I jm; have iW := mv I jo; have iX := mv I jq; have jx := mv I jy; have jv := mv I jw; clear I iL ju js ie ig ij jn ic ot jm jo jq jy jw)
  | ((with_reducible refine av (N := 41) rfl ?_); refine ay rfl 62 (.tmp 5) rfl gY rfl _ _ _ iy.out Try.underlying62 rfl 5 (by kernel_rfl) rfl ?_)
  | (go_at_call 62; refine (HOF.out _ (jZ.of HM.out iI.out iJ.out iK.out)).mono ?_; rintro e PC ⟨rfl, I⟩; have mA := mv I iY; have n9 := mv I jt; have n8 := mv I jr; have nX := mv I iI; have n5 := mv I iJ; have n6 := mv I iK; have mu := mv I iU; have mr := mv I iy; have oZ := mv I oq; have mq := mv I iT; have my := mv I iW; have mz := mv I iX; have om := mv I jx; have oc := mv I jv; clear I iY jt jr iI iJ iK iU iy oq iT iW iX jx jv)
  | (refine ax (some 13) rfl rfl 76 rfl [.string ⟨#[]⟩, .string ⟨#[]⟩] (fun _ => by kernel_rfl) ?_; intro gV Gc J aa I; have cG := ge mA J; have ep := ne mu J; have eR := ne mr J; have kY := ne oZ J; have j7 := ne mq J; have eb := ne my J; have tG := ne mz J; have si := mv I mA; have rZ := mv I n9; have rW := mv I n8; have rG := mv I nX; have rM := mv I n5; have rR := ak (Kd.R_mono (ok' := fun k_ => k_ ≠ gV) (Kd.R_below (Kd.R_bound n6.out) I) (fun k_ bV e_ => by have h_ := bV.2.2.1; omega)); have rB := mv I mu; have rz := mv I mr; have yH := mv I oZ; have rq := mv I mq; have rE := mv I my; have rK := mv I mz; have sf := mv I om; have sb := mv I oc; have fK := ak (aa); clear J aa I mA n9 n8 nX n5 n6 mu mr oZ mq my mz om oc)
  | (refine aN rfl 76 (.tmp 13) (.tmp 44) rfl gV [.string (jd b x).f0, .string (jd b x).f1] rfl rfl 76 _ fK.out 2 (by kernel_rfl) rfl rfl (ia (jd b x)) ?_; intro Cw aa J; have sh := gb si cG J; have rY := gr rZ fK J; have rV := gr rW fK J; have rF := gr rG fK J; have rL := gr rM fK J; have rQ := ak (Kd.R_mono (ok' := fun _ => True) (Kd.R_grown rR.out J (fun k_ bV e_ => bV (Option.some.inj e_))) (fun _ _ => trivial)); have rA := gx rB fK J; have ry := gx rz fK J; have yG := gn yH kY J; have rp := gx rq fK J; have rD := gx rE fK J; have rJ := gx rK fK J; have se := gr sf fK J; have r9 := gr sb fK J; have Ag := ak (aa); clear aa J si rZ rW rG rM rR rB rz yH rq rE rK sf sb fK))
 have ai : Below Cw.heap.size Cw Cw.drew := bp (Below.refl _ _)
 have yB := mv ai sh; have yf := mv ai rY; have xY := mv ai rV; have xx := mv ai rF; have xG := mv ai rL; have xM := mv ai rQ; have xn := mv ai rA; have xj := mv ai ry; have yF := mv ai yG; have xg := mv ai rp; have xq := mv ai rD; have xC := mv ai rJ; have yu := mv ai se; have yp := mv ai r9
 clear ai sh rY rV rF rL rQ rA ry yG rp rD rJ se r9
 have hB := yB
 have hF := yf
 have hG := xY
 have hS := xx
 have hP := xG
 have hM := xM
 have hX := xn
 have hY := xj
 have hA := yF
 have hZ := xg
 have hU := xq
 have hQ := xC
 have hC := yu
 have hD := yp
 clear yB yf xY xx xG xM xn xj yF xg xq xC yu yp
 refine da (n := 11) (S := fun w' => aH w' gX (aX b.addr b.aff b.slots (.slice Af b.free.length cf) (.slice Aa b.attrs.length ca)) 57 ∧ aH w' gY (dt b.addr b.aff (.slice As b.slots.length cs) (.slice Ap b.free.length cp) (.slice Am M.length cm)) 62 ∧ aH w' gQ (aX nb.addr nb.aff nb.slots (.slice A8 nb.free.length c8) (.slice A9 nb.attrs.length c9)) 57) (ds := []) #[false, false, false, false, false, false, false, false, false, false, false] (by kernel_rfl) rfl rfl ⟨hX.out, hY.out, hQ.out⟩ (fun hHeld => ?_); refine bK uA.tab6 uA.bits6 (fun ab bq => ?_)
 refine tk 0 ab.out bq.out hHeld ?_ (hv := by exact fun _ aY => aJ 57 (.tmp 4) rfl gX rfl _ _ _ aY.1 Try.underlying57 rfl HLB.out)
 refine tk 1 ab.out bq.out hHeld ?_ (hv := by exact fun _ aY => aJ 62 (.tmp 5) rfl gY rfl _ _ _ aY.2.1 Try.underlying62 rfl (by kernel_rfl))
 refine pu 2 ab.out ?_
 refine pu 3 ab.out ?_
 refine pu 4 ab.out ?_
 refine tk 5 ab.out bq.out hHeld ?_ (hv := by exact fun _ aY => aJ 57 (.tmp 11) rfl gQ rfl _ _ _ aY.2.2 Try.underlying57 rfl HLN.out)
 refine on 6 ab.out (fun K hK => ?_)
 refine gs Try.func43 #[.agg (aX nb.addr nb.aff nb.slots (.slice A8 nb.free.length c8) (.slice A9 nb.attrs.length c9)).toArray] (HZR.out _ _ ⟨_, _, _, _, rfl, ⟨HNL.out, (rr hC).1, (rr hC).2, (rr hD).1, (rr hD).2⟩⟩) ?_
 rintro e V6 ⟨rfl, I⟩
 refine ⟨_, rfl, ?_⟩
 replace hB := mv I hB; replace hF := mv I hF; replace hG := mv I hG; replace hS := mv I hS; replace hP := mv I hP; replace hM := mv I hM; replace hX := mv I hX; replace hY := mv I hY; replace hA := mv I hA; replace hZ := mv I hZ; replace hU := mv I hU; replace hQ := mv I hQ; replace hC := mv I hC; replace hD := mv I hD
 refine kn hK ⟨hX.out, hY.out, hQ.out⟩ (fun hHeld => ?_)
 clear hK K
 refine pu 7 ab.out ?_
 refine ow 8 ab.out (fun K hK => ?_)
 refine bz (by rfl) rfl 57 (.tmp 8) (.tmp 47) rfl gZ (aX b.addr b.aff b.slots (.slice Af b.free.length cf) (.slice Aa b.attrs.length ca)) rfl rfl 57 _ hZ.out 68 (by kernel_rfl) (ag _ _ _ _ _ HL.out) rfl (bZ _ _ _ _ _ rfl rfl) ?_
 intro V8 aa J; replace hB := gb hB bO J; replace hF := gr hF hZ J; replace hG := gr hG hZ J; replace hS := gr hS hZ J; replace hP := gr hP hZ J; replace hM := gr hM hZ J; replace hX := gn hX aG J; replace hY := gx hY hZ J; replace hA := gx hA hZ J; replace hU := gx hU hZ J; replace hQ := gm hQ a8 J; replace hC := gr hC hZ J; replace hD := gr hD hZ J; replace hZ := ak (aa); clear aa J
 refine hK.out _ _ ⟨hX.out, hY.out, hQ.out⟩ (fun hHeld => ?_)
 clear hK K
 refine ow 9 ab.out (fun K hK => ?_)
 refine bz (by rfl) rfl 62 (.tmp 9) (.tmp 48) rfl gU (dt b.addr b.aff (.slice As b.slots.length cs) (.slice Ap b.free.length cp) (.slice Am M.length cm)) rfl rfl 62 _ hU.out 5 (by kernel_rfl) rfl rfl (dO _ _ rfl rfl rfl) ?_
 intro V9 aa J; replace hB := gb hB fx J; replace hF := gr hF hU J; replace hG := gr hG hU J; replace hS := gr hS hU J; replace hP := gr hP hU J; replace hM := gr hM hU J; replace hX := gx hX hU J; replace hY := gn hY dE J; replace hA := gx hA hU J; replace hZ := gx hZ hU J; replace hQ := gx hQ hU J; replace hC := gr hC hU J; replace hD := gr hD hU J; replace hU := ak (aa); clear aa J
 refine hK.out _ _ ⟨hX.out, hY.out, hQ.out⟩ (fun hHeld => ?_)
 clear hK K
 refine pu 10 ab.out ?_
 refine dn ab.out ?_
 clear hHeld
 go_wp2_with fail
 refine bodyPost_ret (eT rfl _ _ _ gZ gU 57 62 _ _ _ _ rfl hZ.out rfl Try.underlying57 (by first | exact HLB.out | exact HLN.out) rfl hU.out rfl Try.underlying62 (by kernel_rfl)) rfl ⟨_, _, b, rfl, ?_, ?_, ?_, hB.out⟩
 ·exact HG.out
 ·exact ⟨HL.out, _, _, rfl, hF.out, hG.out⟩
 ·exact ⟨_, _, _, rfl, hS.out, hP.out, by rw [← HM.out]; exact hM.out⟩
set_option maxHeartbeats 16000000 in
set_option maxRecDepth 100000 in
theorem C4 (b : Bk) (hg : RG b) (x : Int) (h0 : 0 ≤ x) (h1 : x < 4294967296) (a : kD) (e9 : a.f0.size ≤ 9223372036854775807) (fB : a.f1.size ≤ 9223372036854775807) (hma : eP (cv a) = true) (hin : bN x = b.addr) (hh : fy b x = false) (v v2 : Value) (w : World) (base : Nat) (hbase : base ≤ w.heap.size) (hO : ee w base v b) (hR : eM w base v2 b) :
  Calls Try.prog 83 #[v, v2, .int .u32 x, .agg #[.string a.f0, .string a.f1]] w fun e w' => ∃ v1 v2 b', e = .returned (.tuple #[v1, v2, .bool true]) ∧ RG b' ∧ ee w' base v1 b' ∧ eM w' base v2 b' ∧ Below w.heap.size w w' := by
 obtain ⟨hl, vf, va, rfl, hf, ha⟩ := hO
 obtain ⟨vs, vp, vm, rfl, hs, hp, hm⟩ := hR
 obtain ⟨Af, cf, rfl⟩ := Kd.R_slice hf
 obtain ⟨Aa, ca, rfl⟩ := Kd.R_slice ha
 obtain ⟨As, cs, rfl⟩ := Kd.R_slice hs
 obtain ⟨Ap, cp, rfl⟩ := Kd.R_slice hp
 obtain ⟨M, hM⟩ : ∃ M, M = b.attrs.map vc := ⟨_, rfl⟩
 rw [← hM] at hm
 obtain ⟨Am, cm, rfl⟩ := Kd.R_slice hm
 have HL := ak hl
 have HM := ak hM
 have bl := ak hf
 have dg := ak ha
 have aZ := ak hs
 have ed := ak hp
 have bL := ak hm
 have HG := ak hg
 have ae := ak (Below.refl w.heap.size w)
 have HBASE := ak hbase
 have HLB := ak (b9 (aX b.addr b.aff b.slots (.slice Af b.free.length cf) (.slice Aa b.attrs.length ca)) (ag _ _ _ _ _ HL.out))
 have e0 : oH b x = false := by unfold fy at hh; rw [decide_eq_true hin, Bool.true_and] at hh; exact hh
 have e1 : pz b x (cv a) = true := by unfold pz; rw [hg.right, hma, decide_eq_true hin]; rfl
 have e2 : qH b x (cv a) = 0 := by unfold qH; rw [if_pos e1, if_neg (by rw [e0]; decide)]
 have e3 : nf b x (cv a) = fH b (x % 64).toNat (cv a) := by
  unfold nf
  rw [if_pos e1, if_neg (by rw [e0]; decide)]
  have : x - b.addr = x % 64 := by unfold bN at hin; omega
  rw [this]
 have hrg := hg.give (x % 64).toNat (by omega) (by
  unfold oH at e0
  have : x - b.addr = x % 64 := by unfold bN at hin; omega
  rw [this] at e0
  simpa using e0) (cv a) hma
 have hat := fun v w h => nM b hg.ok x h0 h1 (cv a) v w h
 rw [e2, e3] at hat
 have hnl : (fH b (x % 64).toNat (cv a)).slots.length = 64 := hrg.l64
 have hra := fun v w h => zT b HL.out (by have := hg.sum; omega) (by have := hg.na; omega) ((Bc _).2 hg.nd) x h0 h1 (cv a) v w h
 obtain ⟨nb, hnb⟩ : ∃ nb, nb = fH b (x % 64).toNat (cv a) := ⟨_, rfl⟩
 rw [← hnb] at hat hnl hra hrg
 have HRA := ak hra
 have HRG := ak hrg
 have HNL := ak hnl
 have HAT := ak hat
 have HNB := ak hnb
 have HMY := ak (fun w => pc a e9 fB w)
 have HIN := ak (fun w h => tr b M As Ap Am cs cp cm w h x h0 h1)
 have HOF := ak (fun w h => pW b hl hg.ok.s8 (fun s hs => (hg.s0 s hs).2) M As Ap Am cs cp cm w h x h0 h1)
 rw [hma] at HMY
 rw [decide_eq_true hin] at HIN
 rw [hh] at HOF
 clear hma hin hh e0 hl hM hf ha hs hp hm hg e1 e2 e3 hat hnl hnb hbase hra hrg
 go_enter Try.func83, Try.ntmps83
 go_wp2_with (first
  | (refine aE rfl 57 (.tmp 0) rfl _ rfl ?_; intro gX W1 J aa I; have bS := ge ae J; have aj := ak (ae.out.trans (I.mono ae.out.size)); have bg := mv I bl; have cH := mv I dg; have bd := mv I aZ; have dc := mv I ed; have bG := mv I bL; have ah := ak (aa); clear J aa I ae bl dg aZ ed bL)
  | (refine aE rfl 62 (.tmp 1) rfl _ rfl ?_; intro gY W2 J aa I; have iZ := ge aj J; have fD := ne ah J; have aw := mv I aj; have bM := mv I bg; have dh := mv I cH; have bF := mv I bd; have dp := mv I dc; have cw := mv I bG; have au := mv I ah; have cr := ak (aa); clear J aa I aj bg cH bd dc bG ah)
  | (refine aE rfl 76 (.tmp 3) rfl _ rfl ?_; intro gA W3 J aa I; have kj := ge aw J; have eJ := ne au J; have wz := ne cr J; have aD := mv I aw; have cg := mv I bM; have dL := mv I dh; have b6 := mv I bF; have ec := mv I dp; have dq := ak (Kd.R_mono (ok' := fun k_ => True) (Kd.R_below cw.out I) (fun _ _ => trivial)); have aA := mv I au; have cE := mv I cr; have cR := ak (aa); clear J aa I aw bM dh bF dp cw au cr)
  | (refine ax (some 8) rfl rfl 57 rfl a7 bJ ?_; intro gZ W4 J aa I; have bO := ge aD J; have aG := ne aA J; have fP := ne cE J; have gh := ne cR J; have aW := mv I aD; have cd := mv I cg; have dB := mv I dL; have cP := mv I b6; have ey := mv I ec; have dw := mv I dq; have aV := mv I aA; have b5 := mv I cE; have dd := mv I cR; have bb := ak (aa); clear J aa I aD cg dL b6 ec dq aA cE cR)
  | (refine ax (some 9) rfl rfl 62 rfl dM (fun _ => by kernel_rfl) ?_; intro gU W5 J aa I; have fx := ge aW J; have gF := ne aV J; have dE := ne b5 J; have wA := ne dd J; have gE := ne bb J; have bf := mv I aW; have b8 := mv I cd; have cW := mv I dB; have cY := mv I cP; have er := mv I ey; have cQ := mv I dw; have a9 := mv I aV; have du := mv I b5; have eg := mv I dd; have bu := mv I bb; have ev := ak (aa); clear J aa I aW cd dB cP ey dw aV b5 dd bb))
 have ai : Below W5.heap.size W5 W5.drew := bp (Below.refl _ _)
 have bD := mv ai bf; have cI := mv ai b8; have dx := mv ai cW; have dm := mv ai cY; have ew := mv ai er; have dU := mv ai cQ; have bj := mv ai a9; have cN := mv ai du; have e6 := mv ai eg; have bT := mv ai bu; have dX := mv ai ev
 clear ai bf b8 cW cY er cQ a9 du eg bu ev
 have hB := bD
 have hF := cI
 have hG := dx
 have hS := dm
 have hP := ew
 have hM := dU
 have hX := bj
 have hY := cN
 have hA := e6
 have hZ := bT
 have hU := dX
 clear bD cI dx dm ew dU bj cN e6 bT dX
 refine da (n := 11) (S := fun w' => aH w' gX (aX b.addr b.aff b.slots (.slice Af b.free.length cf) (.slice Aa b.attrs.length ca)) 57 ∧ aH w' gA [.string a.f0, .string a.f1] 76) (ds := []) #[false, false, false, false, false, false, false, false, false, false, false] (by kernel_rfl) rfl rfl ⟨hX.out, hA.out⟩ (fun hHeld => ?_); refine bK nH.tab1 nH.bits1 (fun ab bq => ?_)
 refine tk 0 ab.out bq.out hHeld ?_ (hv := by exact fun _ aY => aJ 57 (.tmp 4) rfl gX rfl _ _ _ aY.1 Try.underlying57 rfl HLB.out)
 refine pu 1 ab.out ?_
 refine tk 2 ab.out bq.out hHeld ?_ (hv := by exact fun _ aY => aJ 76 (.tmp 7) rfl gA rfl _ _ _ aY.2 Try.underlying76 rfl (by kernel_rfl))
 refine oS (σ := Nat × Value) 2 #[true, true, true, true, true, true, true, true, true, false, false] (fun s => [(19, et (cv a)), (20, .tuple #[s.2, .int .i64 0]), (15, .tuple #[s.2, .int .i64 0]), (21, s.2), (22, .int .i64 0), (11, .pointer (some ⟨s.1, 0, none⟩))]) (fun s w' => Aside0 (Below w.heap.size w w') ∧ Aside0 (Kd.R (Kd.int .u8) 5 w' base (fun _ => True) (.slice Af b.free.length cf) b.free) ∧ Aside0 (Kd.R iR 85 w' base (fun _ => True) (.slice Aa b.attrs.length ca) b.attrs) ∧ Aside0 (Kd.R (Kd.int .i64) 3 w' base (fun _ => True) (.slice As b.slots.length cs) b.slots) ∧ Aside0 (Kd.R (Kd.int .i64) 3 w' base (fun _ => True) (.slice Ap b.free.length cp) b.free) ∧ Aside0 (Kd.R hH 76 w' base (fun _ => True) (.slice Am M.length cm) M) ∧ Aside0 (aH w' gX (aX b.addr b.aff b.slots (.slice Af b.free.length cf) (.slice Aa b.attrs.length ca)) 57) ∧ Aside0 (aH w' gY (dt b.addr b.aff (.slice As b.slots.length cs) (.slice Ap b.free.length cp) (.slice Am M.length cm)) 62) ∧ Aside0 (aH w' gA [.string a.f0, .string a.f1] 76) ∧ Aside0 (aH w' gZ a7 57) ∧ Aside0 (aH w' gU dM 62) ∧ Aside0 (aH w' s.1 a7 57) ∧ Aside0 (w.heap.size ≤ s.1) ∧ Aside0 (gX ≠ s.1) ∧ Aside0 (gZ ≠ s.1) ∧ Aside0 (ee w' base s.2 nb)) ?_ ?_
 rotate_left
 ·intro dZ
  refine tw 3 8 ab.out (fun K hK => ?_) (fun K hK => ?_)
  ·skip
   refine gs Try.func50 #[.agg #[.string a.f0, .string a.f1]] (jh a _) ?_
   rintro e V3 ⟨rfl, I⟩
   refine ⟨_, rfl, ?_⟩
   (try replace hV := mv I hV); (try replace hQ := mv I hQ); replace hB := mv I hB; replace hF := mv I hF; replace hG := mv I hG; replace hS := mv I hS; replace hP := mv I hP; replace hM := mv I hM; replace hX := mv I hX; replace hY := mv I hY; replace hA := mv I hA; replace hZ := mv I hZ; replace hU := mv I hU; clear  I
   refine kn hK ⟨hX.out, hA.out⟩ (fun hHeld => ?_)
   clear hK K
   refine tw 4 8 ab.out (fun K hK => ?_) (fun K hK => ?_)
   ·skip
    refine gs Try.func51 #[.agg (aX b.addr b.aff b.slots (.slice Af b.free.length cf) (.slice Aa b.attrs.length ca)).toArray, .int .u32 x, et (cv a)] (HAT.out _ _ ⟨_, _, _, _, rfl, ⟨HL.out, (rr hF).1, (rr hF).2, (rr hG).1, (rr hG).2⟩⟩) ?_
    rintro e V4 ⟨v_, rfl, aU, I⟩
    refine ⟨_, rfl, ?_⟩
    have hV := ak (aU.lower (lb HBASE hB)); (try replace hQ := mv I hQ); replace hB := mv I hB; replace hF := mv I hF; replace hG := mv I hG; replace hS := mv I hS; replace hP := mv I hP; replace hM := mv I hM; replace hX := mv I hX; replace hY := mv I hY; replace hA := mv I hA; replace hZ := mv I hZ; replace hU := mv I hU; clear aU I
    refine kn hK ⟨hX.out, hA.out⟩ (fun hHeld => ?_)
    clear hK K
    refine pu 5 ab.out ?_
    refine pu 6 ab.out ?_
    refine pu 7 ab.out ?_
    refine on 8 ab.out (fun K hK => ?_)
    refine dz (by rfl) 57 rfl a7 bJ ?_
    intro gQ V8 J aa I
    have cz := ge hB J
    have bk := ne hX J
    have a8 := ne hZ J
    (try replace hV := mv I hV)
    replace hB := mv I hB
    replace hF := mv I hF
    replace hG := mv I hG
    replace hS := mv I hS
    replace hP := mv I hP
    replace hM := mv I hM
    replace hX := mv I hX
    replace hY := mv I hY
    replace hA := mv I hA
    replace hZ := mv I hZ
    replace hU := mv I hU
    have hQ := ak aa
    clear J aa I
    refine kn hK ⟨hX.out, hA.out⟩ (fun hHeld => ?_)
    clear hK K
    exact nc (dZ ⟨gQ, v_⟩ _ ⟨hB, hF, hG, hS, hP, hM, hX, hY, hA, hZ, hU, hQ, cz, bk, a8, hV⟩)
   ·skip
    refine dz (by rfl) 57 rfl a7 bJ ?_
    intro gQ V8 J aa I
    have cz := ge hB J
    have bk := ne hX J
    have a8 := ne hZ J
    (try replace hV := mv I hV)
    replace hB := mv I hB
    replace hF := mv I hF
    replace hG := mv I hG
    replace hS := mv I hS
    replace hP := mv I hP
    replace hM := mv I hM
    replace hX := mv I hX
    replace hY := mv I hY
    replace hA := mv I hA
    replace hZ := mv I hZ
    replace hU := mv I hU
    have hQ := ak aa
    clear J aa I
    refine kn hK ⟨hX.out, hA.out⟩ (fun hHeld => ?_)
    clear hK K
    refine on 4 ab.out (fun K hK => ?_)
    refine gs Try.func51 #[.agg (aX b.addr b.aff b.slots (.slice Af b.free.length cf) (.slice Aa b.attrs.length ca)).toArray, .int .u32 x, et (cv a)] (HAT.out _ _ ⟨_, _, _, _, rfl, ⟨HL.out, (rr hF).1, (rr hF).2, (rr hG).1, (rr hG).2⟩⟩) ?_
    rintro e V4 ⟨v_, rfl, aU, I⟩
    refine ⟨_, rfl, ?_⟩
    have hV := ak (aU.lower (lb HBASE hB)); (try replace hQ := mv I hQ); replace hB := mv I hB; replace hF := mv I hF; replace hG := mv I hG; replace hS := mv I hS; replace hP := mv I hP; replace hM := mv I hM; replace hX := mv I hX; replace hY := mv I hY; replace hA := mv I hA; replace hZ := mv I hZ; replace hU := mv I hU; clear aU I
    refine kn hK ⟨hX.out, hA.out⟩ (fun hHeld => ?_)
    clear hK K
    refine pu 5 ab.out ?_
    refine pu 6 ab.out ?_
    refine pu 7 ab.out ?_
    exact nc (dZ ⟨gQ, v_⟩ _ ⟨hB, hF, hG, hS, hP, hM, hX, hY, hA, hZ, hU, hQ, cz, bk, a8, hV⟩)
  ·skip
   refine dz (by rfl) 57 rfl a7 bJ ?_
   intro gQ V8 J aa I
   have cz := ge hB J
   have bk := ne hX J
   have a8 := ne hZ J
   (try replace hV := mv I hV)
   replace hB := mv I hB
   replace hF := mv I hF
   replace hG := mv I hG
   replace hS := mv I hS
   replace hP := mv I hP
   replace hM := mv I hM
   replace hX := mv I hX
   replace hY := mv I hY
   replace hA := mv I hA
   replace hZ := mv I hZ
   replace hU := mv I hU
   have hQ := ak aa
   clear J aa I
   refine kn hK ⟨hX.out, hA.out⟩ (fun hHeld => ?_)
   clear hK K
   refine on 3 ab.out (fun K hK => ?_)
   refine gs Try.func50 #[.agg #[.string a.f0, .string a.f1]] (jh a _) ?_
   rintro e V3 ⟨rfl, I⟩
   refine ⟨_, rfl, ?_⟩
   (try replace hV := mv I hV); (try replace hQ := mv I hQ); replace hB := mv I hB; replace hF := mv I hF; replace hG := mv I hG; replace hS := mv I hS; replace hP := mv I hP; replace hM := mv I hM; replace hX := mv I hX; replace hY := mv I hY; replace hA := mv I hA; replace hZ := mv I hZ; replace hU := mv I hU; clear  I
   refine kn hK ⟨hX.out, hA.out⟩ (fun hHeld => ?_)
   clear hK K
   refine on 4 ab.out (fun K hK => ?_)
   refine gs Try.func51 #[.agg (aX b.addr b.aff b.slots (.slice Af b.free.length cf) (.slice Aa b.attrs.length ca)).toArray, .int .u32 x, et (cv a)] (HAT.out _ _ ⟨_, _, _, _, rfl, ⟨HL.out, (rr hF).1, (rr hF).2, (rr hG).1, (rr hG).2⟩⟩) ?_
   rintro e V4 ⟨v_, rfl, aU, I⟩
   refine ⟨_, rfl, ?_⟩
   have hV := ak (aU.lower (lb HBASE hB)); (try replace hQ := mv I hQ); replace hB := mv I hB; replace hF := mv I hF; replace hG := mv I hG; replace hS := mv I hS; replace hP := mv I hP; replace hM := mv I hM; replace hX := mv I hX; replace hY := mv I hY; replace hA := mv I hA; replace hZ := mv I hZ; replace hU := mv I hU; clear aU I
   refine kn hK ⟨hX.out, hA.out⟩ (fun hHeld => ?_)
   clear hK K
   refine pu 5 ab.out ?_
   refine pu 6 ab.out ?_
   refine pu 7 ab.out ?_
   exact nc (dZ ⟨gQ, v_⟩ _ ⟨hB, hF, hG, hS, hP, hM, hX, hY, hA, hZ, hU, hQ, cz, bk, a8, hV⟩)
 intro s w' hFF; obtain ⟨gQ, v_⟩ := s; simp only at hFF; obtain ⟨hB, hF, hG, hS, hP, hM, hX, hY, hA, hZ, hU, hQ, cz, bk, a8, hV⟩ := hFF; have aU := hV.out; obtain ⟨gR, nE, nF, rfl, cV, dA⟩ := aU; obtain ⟨A8, c8, rfl⟩ := Kd.R_slice cV; obtain ⟨A9, c9, rfl⟩ := Kd.R_slice dA; have hC := ak cV; have hD := ak dA; clear hV gR cV dA
 refine nj ?_
 refine ow 9 ab.out (fun K hK => ?_)
 refine bz (by rfl) rfl 57 (.tmp 11) (.tmp 21) rfl gQ (aX nb.addr nb.aff nb.slots (.slice A8 nb.free.length c8) (.slice A9 nb.attrs.length c9)) rfl rfl 57 _ hQ.out 68 (by kernel_rfl) (ag _ _ _ _ _ HNL.out) rfl (bZ _ _ _ _ _ rfl rfl) ?_
 intro V9 aa J; replace hB := gb hB cz J; replace hF := gr hF hQ J; replace hG := gr hG hQ J; replace hS := gr hS hQ J; replace hP := gr hP hQ J; replace hM := gr hM hQ J; replace hX := gn hX bk J; replace hY := gx hY hQ J; replace hA := gx hA hQ J; replace hZ := gn hZ a8 J; replace hU := gx hU hQ J; replace hC := gr hC hQ J; replace hD := gr hD hQ J; replace hQ := ak (aa); clear aa J
 refine hK.out _ _ ⟨hX.out, hA.out⟩ (fun hHeld => ?_)
 clear hK K
 refine pu 10 ab.out ?_
 refine dn ab.out ?_
 clear hHeld
 have HLN := ak (b9 (aX nb.addr nb.aff nb.slots (.slice A8 nb.free.length c8) (.slice A9 nb.attrs.length c9)) (ag _ _ _ _ _ HNL.out))
 go_wp2_with (first
  | ((with_reducible refine av (N := 23) rfl ?_); refine ay rfl 76 (.tmp 7) rfl gA rfl _ _ _ hA.out Try.underlying76 rfl 2 (by kernel_rfl) rfl ?_)
  | (go_at_call 60; refine (HMY.out _).mono ?_; rintro e qJ ⟨rfl, I⟩; have iL := mv I hB; have ju := mv I hF; have js := mv I hG; have ie := mv I hS; have ig := mv I hP; have ij := mv I hM; have jn := mv I hX; have ic := mv I hY; have ot := mv I hA; have jm := mv I hZ; have jo := mv I hU; have jq := mv I hQ; have jy := mv I hC; have jw := mv I hD; clear I hB hF hG hS hP hM hX hY hA hZ hU hQ hC hD)
  | ((with_reducible refine av (N := 27) rfl ?_); refine fo (by rfl) ?_; refine ay rfl 62 (.tmp 5) rfl gY rfl _ _ _ ic.out Try.underlying62 rfl 5 (by kernel_rfl) rfl ?_)
  | (go_at_call 100; refine (HIN.out _ (jZ.of HM.out ie.out ig.out ij.out)).mono ?_; rintro e DH ⟨rfl, I⟩; have iY := mv I iL; have jt := mv I ju; have jr := mv I js; have iI := mv I ie; have iJ := mv I ig; have iK := mv I ij; have iU := mv I jn; have iy := mv I ic; have oq := mv I ot; have iT := mv I jm; have iW := mv I jo; have iX := mv I jq; have jx := mv I jy; have jv := mv I jw; clear I iL ju js ie ig ij jn ic ot jm jo jq jy jw)
  | ((with_reducible refine av (N := 41) rfl ?_); refine ay rfl 62 (.tmp 5) rfl gY rfl _ _ _ iy.out Try.underlying62 rfl 5 (by kernel_rfl) rfl ?_)
  | (go_at_call 62; refine (HOF.out _ (jZ.of HM.out iI.out iJ.out iK.out)).mono ?_; rintro e PC ⟨rfl, I⟩; have mA := mv I iY; have n9 := mv I jt; have n8 := mv I jr; have nX := mv I iI; have n5 := mv I iJ; have n6 := mv I iK; have mu := mv I iU; have mr := mv I iy; have oZ := mv I oq; have mq := mv I iT; have my := mv I iW; have mz := mv I iX; have om := mv I jx; have oc := mv I jv; clear I iY jt jr iI iJ iK iU iy oq iT iW iX jx jv)
  | (refine ax (some 13) rfl rfl 76 rfl [.string ⟨#[]⟩, .string ⟨#[]⟩] (fun _ => by kernel_rfl) ?_; intro gV Gc J aa I; have cG := ge mA J; have ep := ne mu J; have eR := ne mr J; have kY := ne oZ J; have j7 := ne mq J; have eb := ne my J; have tG := ne mz J; have si := mv I mA; have rZ := mv I n9; have rW := mv I n8; have rG := mv I nX; have rM := mv I n5; have rR := ak (Kd.R_mono (ok' := fun k_ => k_ ≠ gV) (Kd.R_below (Kd.R_bound n6.out) I) (fun k_ bV e_ => by have h_ := bV.2.2.1; omega)); have rB := mv I mu; have rz := mv I mr; have yH := mv I oZ; have rq := mv I mq; have rE := mv I my; have rK := mv I mz; have sf := mv I om; have sb := mv I oc; have fK := ak (aa); clear J aa I mA n9 n8 nX n5 n6 mu mr oZ mq my mz om oc)
  | (refine aN rfl 76 (.tmp 13) (.tmp 44) rfl gV [.string (jd b x).f0, .string (jd b x).f1] rfl rfl 76 _ fK.out 2 (by kernel_rfl) rfl rfl (ia (jd b x)) ?_; intro Cw aa J; have sh := gb si cG J; have rY := gr rZ fK J; have rV := gr rW fK J; have rF := gr rG fK J; have rL := gr rM fK J; have rQ := ak (Kd.R_mono (ok' := fun _ => True) (Kd.R_grown rR.out J (fun k_ bV e_ => bV (Option.some.inj e_))) (fun _ _ => trivial)); have rA := gx rB fK J; have ry := gx rz fK J; have yG := gn yH kY J; have rp := gx rq fK J; have rD := gx rE fK J; have rJ := gx rK fK J; have se := gr sf fK J; have r9 := gr sb fK J; have Ag := ak (aa); clear aa J si rZ rW rG rM rR rB rz yH rq rE rK sf sb fK))
 have ai : Below Cw.heap.size Cw Cw.drew := bp (Below.refl _ _)
 have yB := mv ai sh; have yf := mv ai rY; have xY := mv ai rV; have xx := mv ai rF; have xG := mv ai rL; have xM := mv ai rQ; have xn := mv ai rA; have xj := mv ai ry; have yF := mv ai yG; have xg := mv ai rp; have xq := mv ai rD; have xC := mv ai rJ; have yu := mv ai se; have yp := mv ai r9
 clear ai sh rY rV rF rL rQ rA ry yG rp rD rJ se r9
 have hB := yB
 have hF := yf
 have hG := xY
 have hS := xx
 have hP := xG
 have hM := xM
 have hX := xn
 have hY := xj
 have hA := yF
 have hZ := xg
 have hU := xq
 have hQ := xC
 have hC := yu
 have hD := yp
 clear yB yf xY xx xG xM xn xj yF xg xq xC yu yp
 refine da (n := 10) (S := fun w' => aH w' gX (aX b.addr b.aff b.slots (.slice Af b.free.length cf) (.slice Aa b.attrs.length ca)) 57 ∧ aH w' gY (dt b.addr b.aff (.slice As b.slots.length cs) (.slice Ap b.free.length cp) (.slice Am M.length cm)) 62 ∧ aH w' gA [.string a.f0, .string a.f1] 76 ∧ aH w' gQ (aX nb.addr nb.aff nb.slots (.slice A8 nb.free.length c8) (.slice A9 nb.attrs.length c9)) 57) (ds := []) #[false, false, false, false, false, false, false, false, false, false] (by kernel_rfl) rfl rfl ⟨hX.out, hY.out, hA.out, hQ.out⟩ (fun hHeld => ?_); refine bK uz.tab7 uz.bits7 (fun ab bq => ?_)
 refine tk 0 ab.out bq.out hHeld ?_ (hv := by exact fun _ aY => aJ 57 (.tmp 11) rfl gQ rfl _ _ _ aY.2.2.2 Try.underlying57 rfl HLN.out)
 refine tk 1 ab.out bq.out hHeld ?_ (hv := by exact fun _ aY => aJ 62 (.tmp 5) rfl gY rfl _ _ _ aY.2.1 Try.underlying62 rfl (by kernel_rfl))
 refine pu 2 ab.out ?_
 refine tk 3 ab.out bq.out hHeld ?_ (hv := by exact fun _ aY => aJ 76 (.tmp 7) rfl gA rfl _ _ _ aY.2.2.1 Try.underlying76 rfl (by kernel_rfl))
 refine pu 5 ab.out ?_
 refine pu 6 ab.out ?_
 refine on 4 ab.out (fun K hK => ?_)
 refine gs Try.func107 #[.agg (dt b.addr b.aff (.slice As b.slots.length cs) (.slice Ap b.free.length cp) (.slice Am M.length cm)).toArray, .int .u32 x, .agg #[.string a.f0, .string a.f1]] (HRA.out _ _ ⟨M, As, cs, Ap, cp, Am, cm, rfl, (jZ.of HM.out hS.out hP.out hM.out)⟩) ?_
 rintro e V4 ⟨v9, rfl, fF, I⟩
 refine ⟨_, rfl, ?_⟩
 have hRQ := ak (eM.lower' fF (lb HBASE hB)); replace hB := mv I hB; replace hF := mv I hF; replace hG := mv I hG; replace hS := mv I hS; replace hP := mv I hP; replace hM := mv I hM; replace hX := mv I hX; replace hY := mv I hY; replace hA := mv I hA; replace hZ := mv I hZ; replace hU := mv I hU; replace hQ := mv I hQ; replace hC := mv I hC; replace hD := mv I hD; clear fF I; have Tw := hRQ.out; obtain ⟨uk, qN, qO, rfl, gg, fm, ez⟩ := Tw; obtain ⟨A1, c1, rfl⟩ := Kd.R_slice gg; obtain ⟨A2, c2, rfl⟩ := Kd.R_slice fm; obtain ⟨NM, hNM⟩ : ∃ NM, NM = nb.attrs.map vc := ⟨_, rfl⟩; rw [← hNM] at ez; have HNM := ak hNM; obtain ⟨A3, c3, rfl⟩ := Kd.R_slice ez; have hI := ak gg; have hJ := ak fm; have hT := ak ez; clear hRQ hNM gg fm ez
 refine kn hK ⟨hX.out, hY.out, hA.out, hQ.out⟩ (fun hHeld => ?_)
 clear hK K
 refine ow 7 ab.out (fun K hK => ?_)
 refine bz (by rfl) rfl 57 (.tmp 8) (.tmp 55) rfl gZ (aX nb.addr nb.aff nb.slots (.slice A8 nb.free.length c8) (.slice A9 nb.attrs.length c9)) rfl rfl 57 _ hZ.out 68 (by kernel_rfl) (ag _ _ _ _ _ HNL.out) rfl (bZ _ _ _ _ _ rfl rfl) ?_
 intro V7 aa J; replace hB := gb hB bO J; replace hF := gr hF hZ J; replace hG := gr hG hZ J; replace hS := gr hS hZ J; replace hP := gr hP hZ J; replace hM := gr hM hZ J; replace hX := gn hX aG J; replace hY := gx hY hZ J; replace hA := gx hA hZ J; replace hU := gx hU hZ J; replace hQ := gm hQ a8 J; replace hC := gr hC hZ J; replace hD := gr hD hZ J; replace hI := gr hI hZ J; replace hJ := gr hJ hZ J; replace hT := gr hT hZ J; replace hZ := ak (aa); clear aa J
 refine hK.out _ _ ⟨hX.out, hY.out, hA.out, hQ.out⟩ (fun hHeld => ?_)
 clear hK K
 refine ow 8 ab.out (fun K hK => ?_)
 refine bz (by rfl) rfl 62 (.tmp 9) (.tmp 59) rfl gU (dt nb.addr nb.aff (.slice A1 nb.slots.length c1) (.slice A2 nb.free.length c2) (.slice A3 NM.length c3)) rfl rfl 62 _ hU.out 5 (by kernel_rfl) rfl rfl (dO _ _ rfl rfl rfl) ?_
 intro V8 aa J; replace hB := gb hB fx J; replace hF := gr hF hU J; replace hG := gr hG hU J; replace hS := gr hS hU J; replace hP := gr hP hU J; replace hM := gr hM hU J; replace hX := gx hX hU J; replace hY := gn hY dE J; replace hA := gx hA hU J; replace hZ := gx hZ hU J; replace hQ := gx hQ hU J; replace hC := gr hC hU J; replace hD := gr hD hU J; replace hI := gr hI hU J; replace hJ := gr hJ hU J; replace hT := gr hT hU J; replace hU := ak (aa); clear aa J
 refine hK.out _ _ ⟨hX.out, hY.out, hA.out, hQ.out⟩ (fun hHeld => ?_)
 clear hK K
 refine pu 9 ab.out ?_
 refine dn ab.out ?_
 clear hHeld
 go_wp2_with fail
 refine bodyPost_ret (eT rfl _ _ _ gZ gU 57 62 _ _ _ _ rfl hZ.out rfl Try.underlying57 (by first | exact HLB.out | exact HLN.out) rfl hU.out rfl Try.underlying62 (by kernel_rfl)) rfl ⟨_, _, nb, rfl, ?_, ?_, ?_, hB.out⟩
 ·exact HRG.out
 ·exact ⟨HNL.out, _, _, rfl, hC.out, hD.out⟩
 ·exact ⟨_, _, _, rfl, hI.out, hJ.out, by rw [← HNM.out]; exact hT.out⟩
theorem C7 (b : Bk) (hg : RG b) (x : Int) (h0 : 0 ≤ x) (h1 : x < 4294967296) (a : kD) (e9 : a.f0.size ≤ 9223372036854775807) (fB : a.f1.size ≤ 9223372036854775807) (v v2 : Value) (w : World) (base : Nat) (hbase : base ≤ w.heap.size) (hO : ee w base v b) (hR : eM w base v2 b) :
  Calls Try.prog 83 #[v, v2, .int .u32 x, .agg #[.string a.f0, .string a.f1]] w fun e w' => ∃ v1 v2 b', e = .returned (.tuple #[v1, v2, .bool true]) ∧ RG b' ∧ ee w' base v1 b' ∧ eM w' base v2 b' ∧ Below w.heap.size w w' := by
 cases hma : eP (cv a) with
 | false => exact C6 b hg x h0 h1 a e9 fB hma v v2 w base hbase hO hR
 | true =>
  by_cases hin : bN x = b.addr
  ·cases hh : fy b x with
   | true => exact zX b hg x h0 h1 a e9 fB hma hin hh v v2 w base hbase hO hR
   | false => exact C4 b hg x h0 h1 a e9 fB hma hin hh v v2 w base hbase hO hR
  ·exact C5 b hg x h0 h1 a e9 fB hma hin v v2 w base hbase hO hR
end Go.Proofs.Ytemhalnhbgkbcaa.V
end

section
namespace Go.Proofs.Ytemhalnhbgkbcaa.V
set_option maxHeartbeats 8000000 in
set_option maxRecDepth 100000 in
theorem zG (a : At) (id : ByteArray) (g : Nat) (w : World) (h : aH w g [.string id] 9) : Calls Try.prog 97 #[.agg #[.string a.f0, .string a.f1], .pointer (some ⟨g, 0, none⟩)] w fun e w' => e = .returned (.bool (a.f0.toList == id.toList)) ∧ Below w.heap.size w w' := by
 go_enter Try.func97, Try.ntmps97
 go_wp2_with (refine aE rfl 85 (.tmp 0) rfl [.string a.f0, .string a.f1] rfl ?_; intro g1 W1 J aa I; have qx := aa.cell 0 _ rfl; have j5 := (h.below I).cell 0 _ rfl; have HB := ak I; clear J aa I)
 go_ret
 exact ⟨rfl, HB.out⟩
set_option maxHeartbeats 8000000 in
set_option maxRecDepth 100000 in
theorem Dy (a : At) (id : ByteArray) (g : Nat) (w : World) (h : aH w g [.string id] 9) : Calls Try.prog 98 #[.agg #[.string a.f0, .string a.f1], .pointer (some ⟨g, 0, none⟩)] w fun e w' => e = .returned (.bool (a.f1.toList == id.toList)) ∧ Below w.heap.size w w' := by
 go_enter Try.func98, Try.ntmps98
 go_wp2_with (refine aE rfl 85 (.tmp 0) rfl [.string a.f0, .string a.f1] rfl ?_; intro g1 W1 J aa I; have qx := aa.cell 1 _ rfl; have j5 := (h.below I).cell 0 _ rfl; have HB := ak I; clear J aa I)
 go_ret
 exact ⟨rfl, HB.out⟩
set_option maxHeartbeats 8000000 in
set_option maxRecDepth 100000 in
theorem Nn (a : At) (w : World) : Calls Try.prog 99 #[.agg #[.string a.f0, .string a.f1]] w fun e w' => e = .returned (.bool true) ∧ Below w.heap.size w w' := by
 go_enter Try.func99, Try.ntmps99
 go_wp2_with (refine aE rfl 85 (.tmp 0) rfl [.string a.f0, .string a.f1] rfl ?_; intro g1 W1 J aa I; have HB := ak I; clear J aa I)
 go_ret
 exact ⟨rfl, HB.out⟩
set_option maxHeartbeats 8000000 in
set_option maxRecDepth 100000 in
theorem CR (b : Bk) (hk : BkOk b) (hp : RightP b) (v : Value) (w : World) (h : gi w v b) (id : ByteArray) (g : Nat) (hid : aH w g [.string id] 9) :
  Calls Try.prog 96 #[v, .func (.func 97) #[] #[.pointer (some ⟨g, 0, none⟩)]] w fun e w' => ∃ vo, e = .returned vo ∧ Kd.R (Kd.int .u32) 46 w' w.heap.size (fun _ => True) vo (dH b (fun a => a.f0.toList == id.toList) 64) ∧ Below w.heap.size w w' := by
 obtain ⟨A, c, A', c', rfl, hr⟩ := h
 have HL := ak hr.l64
 have HR := ak hr
 have HK := ak hk
 have HP := ak hp
 have ae := ak (Below.refl w.heap.size w)
 have HLN := ak (show (Try.prog.info? 47).map (·.size) = some (b.slots.map (Value.int .u8)).length by rw [List.length_map, hr.l64]; kernel_rfl)
 have zC : 0 ≤ b.addr := hk.a0
 have kQ : b.addr + 64 ≤ 4294967296 := by
  have h1 := hp.first
  have h2 := hk.a1
  unfold bN at h1
  omega
 have HID := ak hid
 clear hid
 clear hr hk hp
 go_enter Try.func96, Try.ntmps96
 go_wp2_with (first
  | (refine aE rfl 57 (.tmp 0) rfl _ rfl ?_; intro gX W1 J aa I; have bS := ge ae J; have aj := ak (ae.out.trans (I.mono ae.out.size)); have ah := ak (aa); clear J aa I ae)
  | (refine fi rfl 47 (.tmp 8) rfl gX 2 rfl 57 _ (b.slots.map (Value.int .u8)) (.array 64 5) ah.out (kX _ _ _ _ _ HL.out) Try.underlying47 rfl HLN.out ?_))
 go_loopw [5, 6, 7, 10] (fun q _ _ i W => ∃ k : Nat, k ≤ 64 ∧ i = .int .i64 k ∧ Aside0 (aH W gX (aX b.addr b.aff b.slots (.slice A b.free.length c) (.slice A' b.attrs.length c')) 57) ∧ Aside0 (Kd.R (Kd.int .u32) 46 W w.heap.size (fun _ => True) q (dH b (fun a => a.f0.toList == id.toList) k)) ∧ Aside0 (Below w.heap.size w W)) (fun _ _ _ i _ => 64 - (intOf i).toNat)
 case atStart => exact ⟨0, by omega, rfl, ah, ⟨Kd.R_nil _ _ _ _ _⟩, aj⟩
 case round =>
  clear aj ah
  obtain ⟨k, hk, rfl, aI, bx, ae⟩ := hrel
  obtain ⟨W, rfl⟩ : ∃ W : World, W = wr := ⟨_, rfl⟩
  have hul := gP b (fun a => a.f0.toList == id.toList) k
  by_cases ou : k < 64
  ·have hkb : decide ((k : Int) < 64) = true := by simp; omega
   have hkl : k < b.slots.length := by have := HL.out; omega
   have hus := oM b (fun a => a.f0.toList == id.toList) k
   obtain ⟨oo, hoo⟩ : ∃ oo, oo = dH b (fun a => a.f0.toList == id.toList) k := ⟨_, rfl⟩
   rw [← hoo] at bx hus hul
   have HUL := ak (show oo.length ≤ 100 by omega)
   have hms := HK.out.s8 _ (List.getElem_mem hkl)
   have hml := HP.out.sa _ (List.getElem_mem hkl)
   have hna := HP.out.na
   have hge : b.slots.getD k 0 = b.slots[k] := by simp [List.getD, hkl]
   have hix := fun w => oE b.slots HL.out k ou w
   rw [hge] at hix hus
   by_cases mE : b.slots[k] = 0
   ·rw [mE] at hix hus
    have HUS := ak (show dH b (fun a => a.f0.toList == id.toList) (k + 1) = oo by rw [hus]; simp)
    clear hus hms hml hge mE hoo hul
    go_wp2_with fail
    go_roundw
    case rel => exact ⟨k + 1, by omega, by go_num, aI, ⟨by rw [HUS.out]; exact bx.out⟩, ae⟩
    case measure => simp [intOf]; omega
   ·obtain ⟨m, hm⟩ : ∃ m : Nat, b.slots[k] = (m : Int) + 1 := ⟨(b.slots[k]).toNat - 1, by omega⟩
    have hheld : j4 b k = gH b.attrs m := by
     unfold j4
     rw [hge, hm]
     congr 1
     omega
    rw [hm] at hix hus hml hms
    try rw [hheld] at hus
    have ht : (((m : Int) + 1) != 0) = true := by simp; omega
    have hma : m < b.attrs.length := by omega
    obtain ⟨ad, eA, jg, lf⟩ := lr (HR.out.below ae.out).ar m (by omega) (by omega)
    cases eA
    rw [Int.toNat_natCast] at jg lf
    have p1 : ((m : Int) < (b.attrs.length : Int)) = True := eq_true (by omega)
    obtain ⟨a, ha⟩ : ∃ a : At, gH b.attrs m = a := ⟨_, rfl⟩
    have ha' : cU b.attrs (m : Int) = a := ha
    rw [ha'] at jg lf
    try rw [ha] at hus
    rw [ht, Bool.true_and] at hus
    have pE := aI.out.cell 67 _ (fz _ _ _ _ _ HL.out)
    obtain ⟨Ao, co, rfl⟩ := Kd.R_slice bx.out
    cases hpa : (a.f0.toList == id.toList) with
    | true =>
     have HPA := ak hpa
     obtain ⟨o1, fh⟩ : ∃ o1, o1 = oo ++ [b.addr + (k : Int)] := ⟨_, rfl⟩
     have kk := ak fh
     have HUS := ak (show dH b (fun a => a.f0.toList == id.toList) (k + 1) = o1 by rw [hus, fh]; simp [hpa])
     clear hus hms hml hge mE hoo hul hm hheld ha ha' fh hpa
     go_wp2_with (first
      | (go_at_call 97; refine (zG a id g _ (HID.out.below ae.out)).mono ?_; rintro e W1 ⟨rfl, I⟩; rw [HPA.out]; have ah := mv I aI; have b7 := mv I bx; have aj := ak (ae.out.trans (I.mono ae.out.size)); have kK := ah.out.cell 0 _ rfl; clear I aI bx ae pE)
      | ((with_reducible refine cC (b := .append) (xs := #[.tmp 26, .tmp 32]) rfl ?_); at_builtin; refine Kd.R_append (Kd.int .u32) (w0 := w) w.heap.size rfl (.tmp 26) (.tmp 32) 77 46 (.int .u32 0) 4 rfl Try.underlying77 iM rfl (by decide) (by omega) _ oo (b.addr + (k : Int)) [.int .u32 (b.addr + (k : Int))] (fun _ => True) (fun _ => False) rfl rfl rfl (fun _ hk => hk.elim) (fun _ _ => trivial) b7.out aj.out aj.out.size (by have := HUL.out; omega) ?_; intro v_ W2 aU I J fu; rw [← kk.out] at aU; have au := ak (ah.out.grown J (ah.out.ne_row b7.out (by decide))); have ct := ak (aU); have aw := ak (I); obtain ⟨AO, cO, rfl⟩ := Kd.R_slice aU; clear aU I J fu ah b7 aj kK))
     go_roundw
     case rel => exact ⟨k + 1, by omega, by go_num, au, ⟨by rw [HUS.out]; exact ct.out⟩, aw⟩
     case measure => simp [intOf]; omega
    | false =>
     have HPA := ak hpa
     have HUS := ak (show dH b (fun a => a.f0.toList == id.toList) (k + 1) = oo by rw [hus]; simp [hpa])
     clear hus hms hml hge mE hoo hul hm hheld ha ha' hpa
     go_wp2_with (first
      | (go_at_call 97; refine (zG a id g _ (HID.out.below ae.out)).mono ?_; rintro e W1 ⟨rfl, I⟩; rw [HPA.out]; have ah := mv I aI; have b7 := mv I bx; have aj := ak (ae.out.trans (I.mono ae.out.size)); clear I aI bx ae pE))
     go_roundw
     case rel => exact ⟨k + 1, by omega, by go_num, ah, ⟨by rw [HUS.out]; exact b7.out⟩, aj⟩
     case measure => simp [intOf]; omega
  ·obtain rfl : k = 64 := by omega
   rw [show ((64 : Nat) : Int) = (64 : Int) from rfl]
   have hkb : decide ((64 : Int) < 64) = false := by decide
   go_wp2
   go_ret
   exact ⟨_, rfl, bx.out, ae.out⟩
set_option maxHeartbeats 8000000 in
set_option maxRecDepth 100000 in
theorem E5 (b : Bk) (hk : BkOk b) (hp : RightP b) (v : Value) (w : World) (h : gi w v b) (id : ByteArray) (g : Nat) (hid : aH w g [.string id] 9) :
  Calls Try.prog 96 #[v, .func (.func 98) #[] #[.pointer (some ⟨g, 0, none⟩)]] w fun e w' => ∃ vo, e = .returned vo ∧ Kd.R (Kd.int .u32) 46 w' w.heap.size (fun _ => True) vo (dH b (fun a => a.f1.toList == id.toList) 64) ∧ Below w.heap.size w w' := by
 obtain ⟨A, c, A', c', rfl, hr⟩ := h
 have HL := ak hr.l64
 have HR := ak hr
 have HK := ak hk
 have HP := ak hp
 have ae := ak (Below.refl w.heap.size w)
 have HLN := ak (show (Try.prog.info? 47).map (·.size) = some (b.slots.map (Value.int .u8)).length by rw [List.length_map, hr.l64]; kernel_rfl)
 have zC : 0 ≤ b.addr := hk.a0
 have kQ : b.addr + 64 ≤ 4294967296 := by
  have h1 := hp.first
  have h2 := hk.a1
  unfold bN at h1
  omega
 have HID := ak hid
 clear hid
 clear hr hk hp
 go_enter Try.func96, Try.ntmps96
 go_wp2_with (first
  | (refine aE rfl 57 (.tmp 0) rfl _ rfl ?_; intro gX W1 J aa I; have bS := ge ae J; have aj := ak (ae.out.trans (I.mono ae.out.size)); have ah := ak (aa); clear J aa I ae)
  | (refine fi rfl 47 (.tmp 8) rfl gX 2 rfl 57 _ (b.slots.map (Value.int .u8)) (.array 64 5) ah.out (kX _ _ _ _ _ HL.out) Try.underlying47 rfl HLN.out ?_))
 go_loopw [5, 6, 7, 10] (fun q _ _ i W => ∃ k : Nat, k ≤ 64 ∧ i = .int .i64 k ∧ Aside0 (aH W gX (aX b.addr b.aff b.slots (.slice A b.free.length c) (.slice A' b.attrs.length c')) 57) ∧ Aside0 (Kd.R (Kd.int .u32) 46 W w.heap.size (fun _ => True) q (dH b (fun a => a.f1.toList == id.toList) k)) ∧ Aside0 (Below w.heap.size w W)) (fun _ _ _ i _ => 64 - (intOf i).toNat)
 case atStart => exact ⟨0, by omega, rfl, ah, ⟨Kd.R_nil _ _ _ _ _⟩, aj⟩
 case round =>
  clear aj ah
  obtain ⟨k, hk, rfl, aI, bx, ae⟩ := hrel
  obtain ⟨W, rfl⟩ : ∃ W : World, W = wr := ⟨_, rfl⟩
  have hul := gP b (fun a => a.f1.toList == id.toList) k
  by_cases ou : k < 64
  ·have hkb : decide ((k : Int) < 64) = true := by simp; omega
   have hkl : k < b.slots.length := by have := HL.out; omega
   have hus := oM b (fun a => a.f1.toList == id.toList) k
   obtain ⟨oo, hoo⟩ : ∃ oo, oo = dH b (fun a => a.f1.toList == id.toList) k := ⟨_, rfl⟩
   rw [← hoo] at bx hus hul
   have HUL := ak (show oo.length ≤ 100 by omega)
   have hms := HK.out.s8 _ (List.getElem_mem hkl)
   have hml := HP.out.sa _ (List.getElem_mem hkl)
   have hna := HP.out.na
   have hge : b.slots.getD k 0 = b.slots[k] := by simp [List.getD, hkl]
   have hix := fun w => oE b.slots HL.out k ou w
   rw [hge] at hix hus
   by_cases mE : b.slots[k] = 0
   ·rw [mE] at hix hus
    have HUS := ak (show dH b (fun a => a.f1.toList == id.toList) (k + 1) = oo by rw [hus]; simp)
    clear hus hms hml hge mE hoo hul
    go_wp2_with fail
    go_roundw
    case rel => exact ⟨k + 1, by omega, by go_num, aI, ⟨by rw [HUS.out]; exact bx.out⟩, ae⟩
    case measure => simp [intOf]; omega
   ·obtain ⟨m, hm⟩ : ∃ m : Nat, b.slots[k] = (m : Int) + 1 := ⟨(b.slots[k]).toNat - 1, by omega⟩
    have hheld : j4 b k = gH b.attrs m := by
     unfold j4
     rw [hge, hm]
     congr 1
     omega
    rw [hm] at hix hus hml hms
    try rw [hheld] at hus
    have ht : (((m : Int) + 1) != 0) = true := by simp; omega
    have hma : m < b.attrs.length := by omega
    obtain ⟨ad, eA, jg, lf⟩ := lr (HR.out.below ae.out).ar m (by omega) (by omega)
    cases eA
    rw [Int.toNat_natCast] at jg lf
    have p1 : ((m : Int) < (b.attrs.length : Int)) = True := eq_true (by omega)
    obtain ⟨a, ha⟩ : ∃ a : At, gH b.attrs m = a := ⟨_, rfl⟩
    have ha' : cU b.attrs (m : Int) = a := ha
    rw [ha'] at jg lf
    try rw [ha] at hus
    rw [ht, Bool.true_and] at hus
    have pE := aI.out.cell 67 _ (fz _ _ _ _ _ HL.out)
    obtain ⟨Ao, co, rfl⟩ := Kd.R_slice bx.out
    cases hpa : (a.f1.toList == id.toList) with
    | true =>
     have HPA := ak hpa
     obtain ⟨o1, fh⟩ : ∃ o1, o1 = oo ++ [b.addr + (k : Int)] := ⟨_, rfl⟩
     have kk := ak fh
     have HUS := ak (show dH b (fun a => a.f1.toList == id.toList) (k + 1) = o1 by rw [hus, fh]; simp [hpa])
     clear hus hms hml hge mE hoo hul hm hheld ha ha' fh hpa
     go_wp2_with (first
      | (go_at_call 98; refine (Dy a id g _ (HID.out.below ae.out)).mono ?_; rintro e W1 ⟨rfl, I⟩; rw [HPA.out]; have ah := mv I aI; have b7 := mv I bx; have aj := ak (ae.out.trans (I.mono ae.out.size)); have kK := ah.out.cell 0 _ rfl; clear I aI bx ae pE)
      | ((with_reducible refine cC (b := .append) (xs := #[.tmp 26, .tmp 32]) rfl ?_); at_builtin; refine Kd.R_append (Kd.int .u32) (w0 := w) w.heap.size rfl (.tmp 26) (.tmp 32) 77 46 (.int .u32 0) 4 rfl Try.underlying77 iM rfl (by decide) (by omega) _ oo (b.addr + (k : Int)) [.int .u32 (b.addr + (k : Int))] (fun _ => True) (fun _ => False) rfl rfl rfl (fun _ hk => hk.elim) (fun _ _ => trivial) b7.out aj.out aj.out.size (by have := HUL.out; omega) ?_; intro v_ W2 aU I J fu; rw [← kk.out] at aU; have au := ak (ah.out.grown J (ah.out.ne_row b7.out (by decide))); have ct := ak (aU); have aw := ak (I); obtain ⟨AO, cO, rfl⟩ := Kd.R_slice aU; clear aU I J fu ah b7 aj kK))
     go_roundw
     case rel => exact ⟨k + 1, by omega, by go_num, au, ⟨by rw [HUS.out]; exact ct.out⟩, aw⟩
     case measure => simp [intOf]; omega
    | false =>
     have HPA := ak hpa
     have HUS := ak (show dH b (fun a => a.f1.toList == id.toList) (k + 1) = oo by rw [hus]; simp [hpa])
     clear hus hms hml hge mE hoo hul hm hheld ha ha' hpa
     go_wp2_with (first
      | (go_at_call 98; refine (Dy a id g _ (HID.out.below ae.out)).mono ?_; rintro e W1 ⟨rfl, I⟩; rw [HPA.out]; have ah := mv I aI; have b7 := mv I bx; have aj := ak (ae.out.trans (I.mono ae.out.size)); clear I aI bx ae pE))
     go_roundw
     case rel => exact ⟨k + 1, by omega, by go_num, ah, ⟨by rw [HUS.out]; exact b7.out⟩, aj⟩
     case measure => simp [intOf]; omega
  ·obtain rfl : k = 64 := by omega
   rw [show ((64 : Nat) : Int) = (64 : Int) from rfl]
   have hkb : decide ((64 : Int) < 64) = false := by decide
   go_wp2
   go_ret
   exact ⟨_, rfl, bx.out, ae.out⟩
set_option maxHeartbeats 8000000 in
set_option maxRecDepth 100000 in
theorem GD (b : Bk) (hk : BkOk b) (hp : RightP b) (v : Value) (w : World) (h : gi w v b) :
  Calls Try.prog 96 #[v, .func (.func 99) #[] #[]] w fun e w' => ∃ vo, e = .returned vo ∧ Kd.R (Kd.int .u32) 46 w' w.heap.size (fun _ => True) vo (dH b (fun _ => true) 64) ∧ Below w.heap.size w w' := by
 obtain ⟨A, c, A', c', rfl, hr⟩ := h
 have HL := ak hr.l64
 have HR := ak hr
 have HK := ak hk
 have HP := ak hp
 have ae := ak (Below.refl w.heap.size w)
 have HLN := ak (show (Try.prog.info? 47).map (·.size) = some (b.slots.map (Value.int .u8)).length by rw [List.length_map, hr.l64]; kernel_rfl)
 have zC : 0 ≤ b.addr := hk.a0
 have kQ : b.addr + 64 ≤ 4294967296 := by
  have h1 := hp.first
  have h2 := hk.a1
  unfold bN at h1
  omega
 clear hr hk hp
 go_enter Try.func96, Try.ntmps96
 go_wp2_with (first
  | (refine aE rfl 57 (.tmp 0) rfl _ rfl ?_; intro gX W1 J aa I; have bS := ge ae J; have aj := ak (ae.out.trans (I.mono ae.out.size)); have ah := ak (aa); clear J aa I ae)
  | (refine fi rfl 47 (.tmp 8) rfl gX 2 rfl 57 _ (b.slots.map (Value.int .u8)) (.array 64 5) ah.out (kX _ _ _ _ _ HL.out) Try.underlying47 rfl HLN.out ?_))
 go_loopw [5, 6, 7, 10] (fun q _ _ i W => ∃ k : Nat, k ≤ 64 ∧ i = .int .i64 k ∧ Aside0 (aH W gX (aX b.addr b.aff b.slots (.slice A b.free.length c) (.slice A' b.attrs.length c')) 57) ∧ Aside0 (Kd.R (Kd.int .u32) 46 W w.heap.size (fun _ => True) q (dH b (fun _ => true) k)) ∧ Aside0 (Below w.heap.size w W)) (fun _ _ _ i _ => 64 - (intOf i).toNat)
 case atStart => exact ⟨0, by omega, rfl, ah, ⟨Kd.R_nil _ _ _ _ _⟩, aj⟩
 case round =>
  clear aj ah
  obtain ⟨k, hk, rfl, aI, bx, ae⟩ := hrel
  obtain ⟨W, rfl⟩ : ∃ W : World, W = wr := ⟨_, rfl⟩
  have hul := gP b (fun _ => true) k
  by_cases ou : k < 64
  ·have hkb : decide ((k : Int) < 64) = true := by simp; omega
   have hkl : k < b.slots.length := by have := HL.out; omega
   have hus := oM b (fun _ => true) k
   obtain ⟨oo, hoo⟩ : ∃ oo, oo = dH b (fun _ => true) k := ⟨_, rfl⟩
   rw [← hoo] at bx hus hul
   have HUL := ak (show oo.length ≤ 100 by omega)
   have hms := HK.out.s8 _ (List.getElem_mem hkl)
   have hml := HP.out.sa _ (List.getElem_mem hkl)
   have hna := HP.out.na
   have hge : b.slots.getD k 0 = b.slots[k] := by simp [List.getD, hkl]
   have hix := fun w => oE b.slots HL.out k ou w
   rw [hge] at hix hus
   by_cases mE : b.slots[k] = 0
   ·rw [mE] at hix hus
    have HUS := ak (show dH b (fun _ => true) (k + 1) = oo by rw [hus]; simp)
    clear hus hms hml hge mE hoo hul
    go_wp2_with fail
    go_roundw
    case rel => exact ⟨k + 1, by omega, by go_num, aI, ⟨by rw [HUS.out]; exact bx.out⟩, ae⟩
    case measure => simp [intOf]; omega
   ·obtain ⟨m, hm⟩ : ∃ m : Nat, b.slots[k] = (m : Int) + 1 := ⟨(b.slots[k]).toNat - 1, by omega⟩
    have hheld : j4 b k = gH b.attrs m := by
     unfold j4
     rw [hge, hm]
     congr 1
     omega
    rw [hm] at hix hus hml hms
    try rw [hheld] at hus
    have ht : (((m : Int) + 1) != 0) = true := by simp; omega
    have hma : m < b.attrs.length := by omega
    obtain ⟨ad, eA, jg, lf⟩ := lr (HR.out.below ae.out).ar m (by omega) (by omega)
    cases eA
    rw [Int.toNat_natCast] at jg lf
    have p1 : ((m : Int) < (b.attrs.length : Int)) = True := eq_true (by omega)
    obtain ⟨a, ha⟩ : ∃ a : At, gH b.attrs m = a := ⟨_, rfl⟩
    have ha' : cU b.attrs (m : Int) = a := ha
    rw [ha'] at jg lf
    try rw [ha] at hus
    rw [ht, Bool.true_and] at hus
    have pE := aI.out.cell 67 _ (fz _ _ _ _ _ HL.out)
    obtain ⟨Ao, co, rfl⟩ := Kd.R_slice bx.out
    ·skip
     obtain ⟨o1, fh⟩ : ∃ o1, o1 = oo ++ [b.addr + (k : Int)] := ⟨_, rfl⟩
     have kk := ak fh
     have HUS := ak (show dH b (fun _ => true) (k + 1) = o1 by rw [hus, fh]; simp)
     clear hus hms hml hge mE hoo hul hm hheld ha ha' fh
     go_wp2_with (first
      | (go_at_call 99; refine (Nn a _).mono ?_; rintro e W1 ⟨rfl, I⟩; have ah := mv I aI; have b7 := mv I bx; have aj := ak (ae.out.trans (I.mono ae.out.size)); have kK := ah.out.cell 0 _ rfl; clear I aI bx ae pE)
      | ((with_reducible refine cC (b := .append) (xs := #[.tmp 26, .tmp 32]) rfl ?_); at_builtin; refine Kd.R_append (Kd.int .u32) (w0 := w) w.heap.size rfl (.tmp 26) (.tmp 32) 77 46 (.int .u32 0) 4 rfl Try.underlying77 iM rfl (by decide) (by omega) _ oo (b.addr + (k : Int)) [.int .u32 (b.addr + (k : Int))] (fun _ => True) (fun _ => False) rfl rfl rfl (fun _ hk => hk.elim) (fun _ _ => trivial) b7.out aj.out aj.out.size (by have := HUL.out; omega) ?_; intro v_ W2 aU I J fu; rw [← kk.out] at aU; have au := ak (ah.out.grown J (ah.out.ne_row b7.out (by decide))); have ct := ak (aU); have aw := ak (I); obtain ⟨AO, cO, rfl⟩ := Kd.R_slice aU; clear aU I J fu ah b7 aj kK))
     go_roundw
     case rel => exact ⟨k + 1, by omega, by go_num, au, ⟨by rw [HUS.out]; exact ct.out⟩, aw⟩
     case measure => simp [intOf]; omega
  ·obtain rfl : k = 64 := by omega
   rw [show ((64 : Nat) : Int) = (64 : Int) from rfl]
   have hkb : decide ((64 : Int) < 64) = false := by decide
   go_wp2
   go_ret
   exact ⟨_, rfl, bx.out, ae.out⟩
end Go.Proofs.Ytemhalnhbgkbcaa.V
end

section
namespace Go.Proofs.Ytemhalnhbgkbcaa.V
def wI : List Int := List.replicate 65 0
theorem KU (w : World) : (zeroValue 146).run Try.prog w = .ok (.agg (wI.map (Value.int .u8)).toArray) w := by kernel_rfl
theorem Dl (l : List Int) (i : Nat) (h : i < l.length) : (l.map (Value.int .u8))[i]? = some (.int .u8 (l.getD i 0)) := by simp [List.getD, h]
set_option maxHeartbeats 16000000 in
set_option maxRecDepth 100000 in
theorem C9 (b : Bk) (hs : nN b.slots) (hn : b.attrs.length ≤ 64) (hle : ∀ s ∈ b.slots, s ≤ (b.attrs.length : Int)) (v : Value) (w : World) (base : Nat) (lW : base ≤ w.heap.size) (h : ee w base v b) :
  Calls Try.prog 95 #[v] w fun e w' => ∃ v', e = .returned v' ∧ ee w' base v' (kC b) ∧ Below w.heap.size w w' := by
 obtain ⟨hl, vf, va, rfl, hrf, hra⟩ := h
 obtain ⟨A, c, rfl⟩ := Kd.R_slice hrf
 obtain ⟨A', c', rfl⟩ := Kd.R_slice hra
 have HC := ak (Kd.R_reads' hra).2.2
 have HRF := ak hrf
 have Uh := ak lW
 have HL := ak hl
 have HS := ak hs
 have HLE := ak hle
 have ae := ak (Below.refl w.heap.size w)
 have HLN := ak (show (Try.prog.info? 47).map (·.size) = some (b.slots.map (Value.int .u8)).length by rw [List.length_map, hl]; kernel_rfl)
 clear hrf hra lW hl hs hle
 go_enter Try.func95, Try.ntmps95
 go_wp2_with (first
  | (refine aE rfl 57 (.tmp 0) rfl _ rfl ?_; intro gX W1 J aa I; have bS := ge ae J; have aj := ak (ae.out.trans (I.mono ae.out.size)); have ah := ak (aa); clear J aa I ae)
  | (refine ax (some 2) rfl rfl 57 rfl a7 bJ ?_; intro gZ W2 J aa I; have bO := ge aj J; have aG := ne ah J; have aw := mv I aj; have au := mv I ah; have b4 := ak (aa); clear J aa I aj ah)
  | (refine ax (some 3) rfl rfl 146 rfl (wI.map (Value.int .u8)) KU ?_; intro gT W3 J aa I; have ki := ge aw J; have gW := ne au J; have Qk := ne b4 J; have aD := mv I aw; have aA := mv I au; have bQ := mv I b4; have dQ := ak (aa); clear J aa I aw au b4)
  | (refine fi rfl 47 (.tmp 12) rfl gX 2 rfl 57 _ (b.slots.map (Value.int .u8)) (.array 64 5) aA.out (kX _ _ _ _ _ HL.out) Try.underlying47 rfl HLN.out ?_))
 go_loopw [5, 7, 14] (fun u _ i W => ∃ k : Nat, k ≤ 64 ∧ i = .int .i64 k ∧ u = .int .u64 ((fV (b.slots.take k) : Nat) : Int) ∧ Aside0 (aH W gX (aX b.addr b.aff b.slots (.slice A b.free.length c) (.slice A' b.attrs.length c')) 57) ∧ Aside0 (aH W gZ a7 57) ∧ Aside0 (aH W gT (wI.map (Value.int .u8)) 146) ∧ Aside0 (Below w.heap.size w W)) (fun _ _ i _ => 64 - (intOf i).toNat)
 case atStart => exact ⟨0, by omega, rfl, rfl, aA, bQ, dQ, aD⟩
 case round =>
  clear aA bQ dQ aD
  obtain ⟨k, hk, rfl, rfl, aI, bA, lE, ae⟩ := hrel
  obtain ⟨W, rfl⟩ : ∃ W : World, W = wr := ⟨_, rfl⟩
  by_cases ou : k < 64
  ·have hkb : decide ((k : Int) < 64) = true := by simp; omega
   have hkl : k < b.slots.length := by have := HL.out; omega
   obtain ⟨m, hm⟩ : ∃ m : Nat, b.slots[k] = (m : Int) := ⟨(b.slots[k]).toNat, by have := (HS.out _ (List.getElem_mem hkl)).1; omega⟩
   have tf : m < 256 := by have := (HS.out _ (List.getElem_mem hkl)).2; omega
   have hix := fun w => oE b.slots HL.out k ou w
   rw [show b.slots.getD k 0 = (m : Int) by rw [← hm]; simp [List.getD, hkl]] at hix
   have HU := ak (E4 b.slots k hkl m hm)
   clear hm
   go_wp2_with (go_at_call 21; refine (N0 (fV (b.slots.take k)) (o9 _) _ _).mono ?_; rintro e W1 ⟨rfl, I⟩; rw [HU.out]; have ah := mv I aI; have bR := mv I bA; have g5 := mv I lE; have aj := ak (ae.out.trans (I.mono ae.out.size)); clear I aI bA lE ae)
   go_roundw
   case rel => exact ⟨k + 1, by omega, by go_num, rfl, ah, bR, g5, aj⟩
   case measure => simp [intOf]; omega
  ·obtain rfl : k = 64 := by omega
   rw [show ((64 : Nat) : Int) = (64 : Int) from rfl]
   have hkb : decide ((64 : Int) < 64) = false := by decide
   have Qv := ak (show b.slots.take 64 = b.slots from List.take_of_length_le (by have := HL.out; omega))
   rw [Qv.out]
   have pE := aI.out.cell 67 _ (fz _ _ _ _ _ HL.out)
   obtain ⟨us, hus⟩ : ∃ us, us = fV b.slots := ⟨_, rfl⟩
   rw [← hus]
   have HUS := ak hus
   have HUL := ak (show us < 18446744073709551616 by rw [hus]; exact o9 _)
   rw [show wI = g9 b.slots 0 from (AN b.slots).symm] at lE
   clear hus
   go_wp2_with fail
   clear pE
   go_loopw [4, 8, 9, 26] (fun q _ _ i W => ∃ k : Nat, k ≤ b.attrs.length ∧ i = .int .i64 k ∧ Aside0 (aH W gX (aX b.addr b.aff b.slots (.slice A b.free.length c) (.slice A' b.attrs.length c')) 57) ∧ Aside0 (aH W gZ a7 57) ∧ Aside0 (aH W gT ((g9 b.slots k).map (Value.int .u8)) 146) ∧ Aside0 (Kd.R iR 85 W w.heap.size (fun _ => True) q (iw b k)) ∧ Aside0 (Below w.heap.size w W)) (fun _ _ _ i _ => b.attrs.length - (intOf i).toNat)
   case atStart => exact ⟨0, by omega, rfl, aI, bA, lE, ⟨Kd.R_nil _ _ _ _ _⟩, ae⟩
   case round =>
    clear aI bA lE ae
    obtain ⟨k, hk, rfl, aI, bA, lE, nr, ae⟩ := hrel
    obtain ⟨W, rfl⟩ : ∃ W : World, W = wr := ⟨_, rfl⟩
    by_cases hkn : k < b.attrs.length
    ·have hkb : decide ((k : Int) < (b.attrs.length : Int)) = true := by simp; omega
     obtain ⟨ad, eA, jg, lf⟩ := lr (Kd.C_below HC.out ae.out) k (by omega) (by omega)
     cases eA
     rw [Int.toNat_natCast] at jg lf
     have p1 : ((k : Int) < (b.attrs.length : Int)) = True := eq_true (by omega)
     obtain ⟨a, ha⟩ : ∃ a : At, gH b.attrs k = a := ⟨_, rfl⟩
     have ha' : cU b.attrs (k : Int) = a := ha
     rw [ha'] at jg lf
     have HAT := ak ha
     obtain ⟨kn, tx⟩ : ∃ kn, kn = iw b k := ⟨_, rfl⟩
     have HKN := ak tx
     have HKL := ak (show kn.length ≤ k by rw [tx, lQ]; exact wh _ _)
     rw [← tx] at nr
     obtain ⟨Ak, ck, rfl⟩ := Kd.R_slice nr.out
     have HHS := ak (show hasB us (k : Int) = dN b.slots k by rw [HUS.out]; exact Hf b.slots k (by omega))
     clear ha ha' tx
     cases hu : dN b.slots k with
     | false =>
      rw [hu] at HHS
      have dC := ak (show kn = iw b (k + 1) by rw [mg, hu, HKN.out]; simp)
      have HTU := ak (CT b.slots k hu)
      clear hu
      go_wp2_with (first
       | (refine ax (some 9) rfl rfl 85 rfl [.string ⟨#[]⟩, .string ⟨#[]⟩] (fun _ => by kernel_rfl) ?_; intro gV W1 J aa I; have cG := ge ae J; have ep := ne aI J; have j7 := ne bA J; have tE := ne lE J; have ah := mv I aI; have bR := mv I bA; have g5 := mv I lE; have sD := ak (Kd.R_mono (ok' := fun k_ => k_ ≠ gV) (Kd.R_below (Kd.R_bound nr.out) I) (fun k_ bV e_ => by have h_ := bV.2.2.1; omega)); have aj := ak (ae.out.trans (I.mono ae.out.size)); have fE := ak (aa); clear J aa I aI bA lE nr ae)
       | (refine aN rfl 85 (.tmp 9) (.tmp 30) rfl gV [.string a.f0, .string a.f1] rfl rfl 85 _ fE.out 2 (by kernel_rfl) rfl rfl (ia a) ?_; intro W2 aa J; have au := gx ah fE J; have b4 := gx bR fE J; have sC := gx g5 fE J; have ji := ak (Kd.R_mono (ok' := fun _ => True) (Kd.R_grown sD.out J (fun k_ bV e_ => bV (Option.some.inj e_))) (fun _ _ => trivial)); have aw := gb aj cG J; have dF := ak (aa); clear aa J ah bR g5 sD aj fE)
       | (go_at_call 20; refine (Is us HUL.out (k : Int) _).mono ?_; rintro e W3 ⟨rfl, I⟩; rw [HHS.out]; have aA := mv I au; have bQ := mv I b4; have dQ := mv I sC; have qK := mv I ji; have aD := mv I aw; have l8 := mv I dF; clear I au b4 sC ji aw dF))
      go_roundw
      case rel => exact ⟨k + 1, by omega, by go_num, aA, bQ, ⟨by rw [HTU.out]; exact dQ.out⟩, ⟨by rw [← dC.out]; exact qK.out⟩, aD⟩
      case measure => simp [intOf]; omega
     | true =>
      rw [hu] at HHS
      obtain ⟨k1, Im⟩ : ∃ k1, k1 = kn ++ [a] := ⟨_, rfl⟩
      have dC := ak (show k1 = iw b (k + 1) by rw [Im, mg, hu, if_pos rfl, HKN.out, HAT.out])
      have Gr := ak Im
      have HTU := ak (AP b.slots k (by omega) hu)
      have HRK := ak (show (k1.length : Int) = ((fg b.slots (k + 1) : Nat) : Int) by rw [dC.out, lQ])
      have U2 : k1.length ≤ 64 := by rw [Im, List.length_append, List.length_singleton]; have := HKL.out; omega
      have pt : ((k : Int) + 1 < 65) = True := eq_true (by omega)
      clear hu Im
      go_wp2_with (first
       | (refine ax (some 9) rfl rfl 85 rfl [.string ⟨#[]⟩, .string ⟨#[]⟩] (fun _ => by kernel_rfl) ?_; intro gV W1 J aa I; have cG := ge ae J; have ep := ne aI J; have j7 := ne bA J; have tE := ne lE J; have ah := mv I aI; have bR := mv I bA; have g5 := mv I lE; have sD := ak (Kd.R_mono (ok' := fun k_ => k_ ≠ gV) (Kd.R_below (Kd.R_bound nr.out) I) (fun k_ bV e_ => by have h_ := bV.2.2.1; omega)); have aj := ak (ae.out.trans (I.mono ae.out.size)); have fE := ak (aa); clear J aa I aI bA lE nr ae)
       | (refine aN rfl 85 (.tmp 9) (.tmp 30) rfl gV [.string a.f0, .string a.f1] rfl rfl 85 _ fE.out 2 (by kernel_rfl) rfl rfl (ia a) ?_; intro W2 aa J; have au := gx ah fE J; have b4 := gx bR fE J; have sC := gx g5 fE J; have ji := ak (Kd.R_mono (ok' := fun _ => True) (Kd.R_grown sD.out J (fun k_ bV e_ => bV (Option.some.inj e_))) (fun _ _ => trivial)); have aw := gb aj cG J; have dF := ak (aa); clear aa J ah bR g5 sD aj fE)
       | (go_at_call 20; refine (Is us HUL.out (k : Int) _).mono ?_; rintro e W3 ⟨rfl, I⟩; rw [HHS.out]; have aA := mv I au; have bQ := mv I b4; have dQ := mv I sC; have qK := mv I ji; have aD := mv I aw; have l8 := mv I dF; have mJ := l8.out.cell 0 _ rfl; have lB := l8.out.cell 1 _ rfl; clear I au b4 sC ji aw dF)
       | ((with_reducible refine cC (b := .append) (xs := #[.tmp 34, .tmp 36]) rfl ?_); at_builtin; refine Kd.R_append iR (w0 := w) w.heap.size rfl (.tmp 34) (.tmp 36) 55 85 (.agg #[.string ⟨#[]⟩, .string ⟨#[]⟩]) 32 rfl Try.underlying55 yT rfl (by decide) (by omega) _ kn a [.string a.f0, .string a.f1] (fun _ => True) (fun _ => False) rfl rfl (yQ _ _ _ _) (fun _ hk => hk.elim) (fun _ _ => trivial) qK.out aD.out aD.out.size (by have := HKL.out; omega) ?_; intro v_ W4 aU I J fu; rw [← Gr.out] at aU; have aV := ak (aA.out.grown J (aA.out.ne_row qK.out (by decide))); have bb := ak (bQ.out.grown J (bQ.out.ne_row qK.out (by decide))); have dT := ak (dQ.out.grown J (dQ.out.ne_row qK.out (by decide))); have zf := ak (aU); have aW := ak (I); obtain ⟨AK, cK, rfl⟩ := Kd.R_slice aU; have Ee := dT.out.cell (k + 1) _ (Dl _ _ (by rw [sF]; omega)); have P2 := dT.out.frozen (k + 1); clear aU I J fu aA bQ dQ qK aD mJ lB))
      generalize bW : W4.setCell ⟨gT, k + 1, none⟩ (.int .u8 (k1.length : Int)) = W5; have J : W4.grownBy W5 (some gT) := (by rw [← bW]; exact bP _ _ _ _); have a9 := gx aV dT J; have bu := gx bb dT J; have bw := ak (dT.out.set (k + 1) (.int .u8 (k1.length : Int))); have EH := gr zf dT J; have bf := gb aW ki J; rw [bW] at bw; clear bW J aV bb dT zf aW Ee P2
      have HTT := ak (show aH W5 gT ((g9 b.slots (k + 1)).map (Value.int .u8)) 146 by have h_ := bw.out; rw [HRK.out, ← List.map_set, HTU.out] at h_; exact h_)
      go_roundw
      case rel => exact ⟨k + 1, by omega, by go_num, a9, bu, HTT, ⟨by rw [← dC.out]; exact EH.out⟩, bf⟩
      case measure => simp [intOf]; omega
    ·obtain rfl : k = b.attrs.length := by omega
     have hkb : decide ((b.attrs.length : Int) < (b.attrs.length : Int)) = false := by simp
     obtain ⟨Ak, ck, rfl⟩ := Kd.R_slice nr.out
     obtain ⟨kn, tx⟩ : ∃ kn, kn = iw b b.attrs.length := ⟨_, rfl⟩
     rw [← tx] at nr
     have HKN := ak tx
     rw [show (iw b b.attrs.length).length = kn.length by rw [tx]]
     clear tx
     go_wp2_with (refine fi rfl 47 (.tmp 45) rfl gX 2 rfl 57 _ (b.slots.map (Value.int .u8)) (.array 64 5) aI.out (kX _ _ _ _ _ HL.out) Try.underlying47 rfl HLN.out ?_)
     go_loopw [10, 11, 47] (fun _ _ i W => ∃ k : Nat, k ≤ 64 ∧ i = .int .i64 k ∧ Aside0 (aH W gX (aX b.addr b.aff (su b.slots k) (.slice A b.free.length c) (.slice A' b.attrs.length c')) 57) ∧ Aside0 (aH W gZ a7 57) ∧ Aside0 (aH W gT ((g9 b.slots b.attrs.length).map (Value.int .u8)) 146) ∧ Aside0 (Kd.R iR 85 W w.heap.size (fun _ => True) (.slice Ak kn.length ck) kn) ∧ Aside0 (Below w.heap.size w W)) (fun _ _ i _ => 64 - (intOf i).toNat)
     case atStart => exact ⟨0, by omega, rfl, aI, bA, lE, nr, ae⟩
     case round =>
      clear aI bA lE nr ae
      obtain ⟨k, hk, rfl, aI, bA, lE, nr, ae⟩ := hrel
      obtain ⟨W, rfl⟩ : ∃ W : World, W = wr := ⟨_, rfl⟩
      have HLM := ak (show (su b.slots k).length = 64 by rw [C0]; exact HL.out)
      by_cases ou : k < 64
      ·have hkb : decide ((k : Int) < 64) = true := by simp; omega
       have hkl : k < b.slots.length := by have := HL.out; omega
       have hms := HS.out _ (List.getElem_mem hkl)
       have hml := HLE.out _ (List.getElem_mem hkl)
       obtain ⟨m, hm⟩ : ∃ m : Nat, b.slots[k] = (m : Int) := ⟨(b.slots[k]).toNat, by omega⟩
       have tf : m < 65 := by omega
       have hix := fun w => oE b.slots HL.out k ou w
       rw [show b.slots.getD k 0 = (m : Int) by rw [← hm]; simp [List.getD, hkl]] at hix
       have hrk := CS b.slots b.attrs.length b.slots[k] (List.getElem_mem hkl) hms.1 hml (by omega)
       have hst := GX b.slots k hkl
       rw [hm, Int.toNat_natCast] at hrk hst
       obtain ⟨r, hr⟩ : ∃ r, r = fg b.slots m := ⟨_, rfl⟩
       rw [← hr] at hrk hst
       have Vm : r < 256 := by rw [hr]; have := wh b.slots m; omega
       have HST := ak hst
       have Ee := lE.out.cell m _ (Dl _ _ (by rw [sF]; omega))
       rw [hrk] at Ee
       have wm := aI.out.slot HLM.out k ou
       have G1 := aI.out.frozen (2 + k)
       have pm : ((m : Int) < 65) = True := eq_true (by omega)
       have pk : ((k : Int) < 64) = True := eq_true (by omega)
       clear hm hrk hst hr hms hml
       go_wp2_with fail
       generalize bW : W.setCell ⟨gX, 2 + k, none⟩ (.int .u8 (r : Int)) = W1; have J : W.grownBy W1 (some gX) := (by rw [← bW]; exact bP _ _ _ _); have ah := ak (aI.out.set (2 + k) (.int .u8 (r : Int))); have bR := gm bA aG J; have g5 := gx lE aI J; have sD := gr nr aI J; have aj := gb ae bS J; rw [bW] at ah; clear bW J aI bA lE nr ae Ee wm G1
       rw [qG _ _ _ _ _ HLM.out k ou, HST.out] at ah
       go_roundw
       case rel => exact ⟨k + 1, by omega, by go_num, ah, bR, g5, sD, aj⟩
       case measure => simp [intOf]; omega
      ·obtain rfl : k = 64 := by omega
       rw [show ((64 : Nat) : Int) = (64 : Int) from rfl]
       have hkb : decide ((64 : Int) < 64) = false := by decide
       have hms : su b.slots 64 = (kC b).slots := by
        have h_ := GY b.slots
        rwa [HL.out] at h_
       rw [hms] at aI HLM
       have HCB := ak (show kC b = ⟨b.addr, b.aff, (kC b).slots, b.free, kn⟩ by rw [HKN.out]; rfl)
       generalize (kC b).slots = sl at aI HLM HCB
       have wm := aI.out.cell 67 _ (fz _ _ _ _ _ HLM.out)
       have G1 := aI.out.frozen 67
       clear hms
       go_wp2_with (first
        | ((with_reducible refine av (N := 60) rfl ?_); generalize bW : W.setCell ⟨gX, 67, none⟩ (.slice Ak kn.length ck) = W1; have J : W.grownBy W1 (some gX) := (by rw [← bW]; exact bP _ _ _ _); have ah := ak (aI.out.set 67 (.slice Ak kn.length ck)); have bR := gm bA aG J; have sD := gr nr aI J; have aj := gb ae bS J; rw [bW] at ah; clear bW J aI bA nr ae wm G1; rw [tA _ _ _ _ _ HLM.out] at ah; refine ay rfl 57 (.tmp 1) rfl gX rfl _ _ _ ah.out Try.underlying57 rfl 68 (by kernel_rfl) (ag _ _ _ _ _ HLM.out) ?_)
        | (refine aN rfl 57 (.tmp 2) (.tmp 60) rfl gZ (aX b.addr b.aff sl (.slice A b.free.length c) (.slice Ak kn.length ck)) rfl rfl 57 _ bR.out 68 (by kernel_rfl) (ag _ _ _ _ _ HLM.out) rfl (bZ _ _ _ _ _ rfl rfl) ?_; intro W2 aa J; have au := gn ah aG J; have b4 := ak (aa); have ji := gr sD bR J; have aw := gb aj bO J; clear aa J ah bR sD aj))
       refine bodyPost_ret (results_cell_row rfl _ _ gZ 57 _ (0, 0) _ rfl b4.out Try.underlying57 rfl (by simp only [List.size_toArray]; exact b9 _ (ag _ _ _ _ _ HLM.out))) rfl ⟨_, rfl, ?_, aw.out⟩
       rw [HCB.out]
       exact ⟨HLM.out, _, _, rfl, Kd.R_below HRF.out aw.out, Kd.R_lower ji.out Uh.out⟩
end Go.Proofs.Ytemhalnhbgkbcaa.V
end

