/- The law BlockPlays for every input: texts of ours, put together (part 12 of 17). No further condition. -/
import Derived.Test.YtemhalnhbgkbcaaCBlockPlaysx2
import Derived.Test.YtemhalnhbgkbcaaCBlockPlaysx6
import Derived.Test.YtemhalnhbgkbcaaCBlockPlaysx10
import Derived.Test.YtemhalnhbgkbcaaCBlockPlaysx8
import Derived.Test.YtemhalnhbgkbcaaCBlockPlaysx4
import Derived.Outline
import Derived.Test.YtemhalnhbgkbcaaCBlockPlaysx7
set_option linter.unusedVariables false
set_option linter.unusedSimpArgs false
open Go.RowKit Go.Proofs.YtemhalnhbgkbcaaW.PrintWords Go.Proofs.YtemhalnhbgkbcaaW.PrintLast Go.Proofs.YtemhalnhbgkbcaaW.PrintMore Go.Proofs.Ytemhalnhbgkbcaa.Z
section
namespace Go.Proofs.Ytemhalnhbgkbcaa.V
theorem fD {fn : Func} {p p' u : Tmp} {ty ty' : TypeId} (h : fn.results = #[.cell p ty, .cell p' ty', .tmp u]) (tmps : Array Value) (P : Program) (w : World) (g g' : Nat) (t t' : TypeId) (cs cs' : List Value) (d d' : TypeDesc)
  (hp : tmps.getD p undef = .pointer (some ⟨g, 0, none⟩)) (hg : aX w g cs t)
  (hd : (match d with | .struct _ | .array _ _ => true | _ => false) = true) (hu : P.underlying ty = some d) (hi : (P.info? ty).map (·.size) = some cs.length)
  (hp' : tmps.getD p' undef = .pointer (some ⟨g', 0, none⟩)) (hg' : aX w g' cs' t')
  (hd' : (match d' with | .struct _ | .array _ _ => true | _ => false) = true) (hu' : P.underlying ty' = some d') (hi' : (P.info? ty').map (·.size) = some cs'.length) :
  (results fn tmps).run P w = .ok (.tuple #[.agg cs.toArray, .agg cs'.toArray, tmps.getD u undef]) w :=
 Dy (rs := [.cell p ty, .cell p' ty', .tmp u]) h (by simp) (.cell g t cs.toArray (0, 0) d hp hg hu (by cases d <;> exact hd) (by simpa using hi) (.cell g' t' cs'.toArray (0, 0) d' hp' hg' hu' (by cases d' <;> exact hd') (by simpa using hi') (.tmp .nil)))
theorem fw.lower' {W : World} {b1 b2 : Nat} {v : Value} {b : Bk} (h : fw W b1 v b) (hb : b2 ≤ b1) : fw W b2 v b := by
 obtain ⟨vs, vf, va, rfl, h1, h2, h3⟩ := h
 exact ⟨vs, vf, va, rfl, Kd.R_lower h1 hb, Kd.R_lower h2 hb, Kd.R_lower h3 hb⟩
theorem vZ (b : Bk) (M : List lN) (As Ap Am : Option Addr) (cs cp cm : Nat) (w : World) (hr : RbR w b M As cs Ap cp Am cm) (x : Int) (h0 : 0 ≤ x) (h1 : x < 4294967296) :
  Calls Try.prog 100 #[.agg (dH b.addr b.aff (.slice As b.slots.length cs) (.slice Ap b.free.length cp) (.slice Am M.length cm)).toArray, .int .u32 x] w fun e w' => e = .returned (.bool (decide (cC x = b.addr))) ∧ Below w.heap.size w w' :=
 gj.calls _ _ _ _ _ _ _ _ _ _ _ x _ w hr.sr hr.sc hr.fr hr.fc hr.ar hr.ac (Qs b M x h0 h1)
theorem sw (a : lN) (h0 : a.f0.size ≤ 9223372036854775807) (h1 : a.f1.size ≤ 9223372036854775807) (w : World) :
  Calls Try.prog 60 #[.agg #[.string a.f0, .string a.f1]] w fun e w' => e = .returned (.bool (fj (cv a))) ∧ Below w.heap.size w w' :=
 bN.calls 9223372036854775808 a.f0 a.f1 _ w (IZ a.f0 a.f1 h0 h1 _ (Nat.le_refl _))
def pn.T1 : Bool × List (List Nat × List Nat) := (true, [([], []), ([], []), ([], []), ([2], [2]), ([0, 1, 3, 3], [0, 1, 3]), ([4], [4]), ([5], [5]), ([5], [5]), ([], []), ([8, 6, 4, 0, 1, 2, 3, 4, 5, 6, 8], [6, 8]), ([7, 9, 0, 1, 2, 3, 4, 5, 6, 7, 8, 9], [7])])
def pn.B1 : List Nat := [0, 0, 0, 4, 15, 31, 63, 63, 0, 383, 1023]
theorem pn.tab1 : eI .any (opsOf Try.f83 1) = pn.T1 := by kernel_rfl
theorem pn.bits1 : eb pn.T1.2 pn.B1 = true := by kernel_rfl
def uB.T3 : Bool × List (List Nat × List Nat) := (true, [([], []), ([], []), ([], []), ([2], [2]), ([3], [3]), ([4], [4]), ([5, 4, 4], [4, 5]), ([4, 6], [4, 6]), ([0, 6, 0], [0]), ([1, 8, 0, 1, 8], [1]), ([7, 9, 0, 1, 2, 3, 4, 5, 6, 7, 8, 9], [7])])
def uB.B3 : List Nat := [0, 0, 0, 4, 12, 28, 60, 124, 125, 383, 1023]
theorem uB.tab3 : eI .any (opsOf Try.f83 3) = uB.T3 := by kernel_rfl
theorem uB.bits3 : eb uB.T3.2 uB.B3 = true := by kernel_rfl
def xm.T6 : Bool × List (List Nat × List Nat) := (true, [([], []), ([], []), ([], []), ([2], [2]), ([3], [3]), ([4], [4]), ([5, 4, 4], [4, 5]), ([4, 6], [4, 6]), ([0, 6, 0], [0]), ([1, 8, 0, 1, 8], [1]), ([7, 9, 0, 1, 2, 3, 4, 5, 6, 7, 8, 9], [7])])
def xm.B6 : List Nat := [0, 0, 0, 4, 12, 28, 60, 124, 125, 383, 1023]
theorem xm.tab6 : eI .any (opsOf Try.f83 6) = xm.T6 := by kernel_rfl
theorem xm.bits6 : eb xm.T6.2 xm.B6 = true := by kernel_rfl
def xl.T7 : Bool × List (List Nat × List Nat) := (true, [([], []), ([], []), ([], []), ([], []), ([1, 2, 3], [1, 2, 3]), ([], []), ([5], [5]), ([0, 4, 0], [0]), ([4, 7, 0, 1, 2, 3, 4, 7], [4]), ([6, 8, 0, 1, 2, 3, 4, 5, 6, 7, 8], [6])])
def xl.B7 : List Nat := [0, 0, 0, 0, 14, 0, 32, 31, 159, 511]
theorem xl.tab7 : eI .any (opsOf Try.f83 7) = xl.T7 := by kernel_rfl
theorem xl.bits7 : eb xl.T7.2 xl.B7 = true := by kernel_rfl
set_option maxHeartbeats 16000000 in
set_option maxRecDepth 100000 in
theorem FE (b : Bk) (hg : RG b) (x : Int) (h0 : 0 ≤ x) (h1 : x < 4294967296) (a : lN) (fE : a.f0.size ≤ 9223372036854775807) (gh : a.f1.size ≤ 9223372036854775807) (hma : fj (cv a) = false) (v v2 : Value) (w : World) (base : Nat) (hbase : base ≤ w.heap.size) (hO : eP w base v b) (hR : fw w base v2 b) :
  Calls Try.prog 83 #[v, v2, .int .u32 x, .agg #[.string a.f0, .string a.f1]] w fun e w' => ∃ v1 v2 b', e = .returned (.tuple #[v1, v2, .bool true]) ∧ RG b' ∧ eP w' base v1 b' ∧ fw w' base v2 b' ∧ Below w.heap.size w w' := by
 obtain ⟨hl, vf, va, rfl, hf, ha⟩ := hO
 obtain ⟨vs, vp, vm, rfl, hs, hp, hm⟩ := hR
 obtain ⟨Af, cf, rfl⟩ := Kd.R_slice hf
 obtain ⟨Aa, ca, rfl⟩ := Kd.R_slice ha
 obtain ⟨As, cs, rfl⟩ := Kd.R_slice hs
 obtain ⟨Ap, cp, rfl⟩ := Kd.R_slice hp
 obtain ⟨M, hM⟩ : ∃ M, M = b.attrs.map vc := ⟨_, rfl⟩
 rw [← hM] at hm
 obtain ⟨Am, cm, rfl⟩ := Kd.R_slice hm
 have HL := ak hl
 have HM := ak hM
 have bU := ak hf
 have eT := ak ha
 have bl := ak hs
 have eR := ak hp
 have cb := ak hm
 have HG := ak hg
 have an := ak (Below.refl w.heap.size w)
 have HBASE := ak hbase
 have HLB := ak (dc (bk b.addr b.aff b.slots (.slice Af b.free.length cf) (.slice Aa b.attrs.length ca)) (ao _ _ _ _ _ HL.out))
 have hno : (fj (cv a) && decide (cC x = b.addr)) = false := by rw [hma]; rfl
 have e1 : q8 b x (cv a) = false := by unfold q8; rw [hno, Bool.and_false]
 have e2 : sO b x (cv a) = 1 := by unfold sO; rw [if_neg (by rw [e1]; decide)]
 have e3 : oL b x (cv a) = kC := by unfold oL; rw [if_neg (by rw [e1]; decide)]
 have hat := fun v w h => pH b hg.ok x h0 h1 (cv a) v w h
 rw [e2, e3] at hat
 have hnl : kC.slots.length = 64 := rfl
 obtain ⟨nb, hnb⟩ : ∃ nb, nb = kC := ⟨_, rfl⟩
 rw [← hnb] at hat hnl
 have HNL := ak hnl
 have HAT := ak hat
 have HNB := ak hnb
 have HMY := ak (fun w => sw a fE gh w)
 have HIN := ak (fun w h => vZ b M As Ap Am cs cp cm w h x h0 h1)
 have HOF := ak (fun w h => rK b hl hg.ok.s8 (fun s hs => (hg.s0 s hs).2) M As Ap Am cs cp cm w h x h0 h1)
 rw [hma] at HMY
 clear hma hno hl hM hf ha hs hp hm hg e1 e2 e3 hat hnl hnb hbase
 go_enter Try.func83, Try.ntmps83
 go_wp2_with (first
  | (refine aV rfl 57 (.tmp 0) rfl _ rfl ?_; intro gX W1 J aa I; have cw := ge an J; have aA := ak (an.out.trans (I.mono an.out.size)); have bJ := mv I bU; have ea := mv I eT; have bC := mv I bl; have ee := mv I eR; have b7 := mv I cb; have au := ak (aa); clear J aa I an bU eT bl eR cb)
  | (refine aV rfl 62 (.tmp 1) rfl _ rfl ?_; intro gY W2 J aa I; have jT := ge aA J; have gC := ne au J; have aK := mv I aA; have ch := mv I bJ; have er := mv I ea; have b4 := mv I bC; have ej := mv I ee; have dm := mv I b7; have aI := mv I au; have dk := ak (aa); clear J aa I aA bJ ea bC ee b7 au)
  | (refine aV rfl 76 (.tmp 3) rfl _ rfl ?_; intro gA W3 J aa I; have lI := ge aK J; have fq := ne aI J; have zd := ne dk J; have aT := mv I aK; have cW := mv I ch; have eG := mv I er; have cH := mv I b4; have eN := mv I ej; have dT := ak (Kd.R_mono (ok' := fun k_ => True) (Kd.R_below dm.out I) (fun _ _ => trivial)); have aQ := mv I aI; have dj := mv I dk; have eg := ak (aa); clear J aa I aK ch er b4 ej dm aI dk)
  | (refine aH (some 8) rfl rfl 57 rfl bu b6 ?_; intro gZ W4 J aa I; have ct := ge aT J; have aU := ne aQ J; have gS := ne dj J; have ij := ne eg J; have bq := mv I aT; have cU := mv I cW; have eo := mv I eG; have dC := mv I cH; have fg := mv I eN; have dZ := mv I dT; have bg := mv I aQ; have di := mv I dj; have eD := mv I eg; have bB := ak (aa); clear J aa I aT cW eG cH eN dT aQ dj eg)
  | (refine aH (some 9) rfl rfl 62 rfl dW (fun _ => by kernel_rfl) ?_; intro gU W5 J aa I; have fR := ge bq J; have ig := ne bg J; have dO := ne di J; have ze := ne eD J; have iA := ne bB J; have bE := mv I bq; have cQ := mv I cU; have dJ := mv I eo; have dG := mv I dC; have eV := mv I fg; have dw := mv I dZ; have bz := mv I bg; have dY := mv I di; have fB := mv I eD; have bY := mv I bB; have ff := ak (aa); clear J aa I bq cU eo dC fg dZ bg di eD bB))
 have aq : Below W5.heap.size W5 W5.drew := bL (Below.refl _ _)
 have bZ := mv aq bE; have dD := mv aq cQ; have ef := mv aq dJ; have dN := mv aq dG; have eU := mv aq eV; have ez := mv aq dw; have bH := mv aq bz; have du := mv aq dY; have gi := mv aq fB; have cn := mv aq bY; have dI := mv aq ff
 clear aq bE cQ dJ dG eV dw bz dY fB bY ff
 have hB := bZ
 have hF := dD
 have hG := ef
 have hS := dN
 have hP := eU
 have hM := ez
 have hX := bH
 have hY := du
 have hA := gi
 have hZ := cn
 have hU := dI
 clear bZ dD ef dN eU ez bH du gi cn dI
 refine dR (n := 11) (S := fun w' => aX w' gX (bk b.addr b.aff b.slots (.slice Af b.free.length cf) (.slice Aa b.attrs.length ca)) 57 ∧ aX w' gA [.string a.f0, .string a.f1] 76) (ds := []) #[false, false, false, false, false, false, false, false, false, false, false] (by kernel_rfl) rfl rfl ⟨hX.out, hA.out⟩ (fun hHeld => ?_); refine b5 pn.tab1 pn.bits1 (fun ag bM => ?_)
 refine tk 0 ag.out bM.out hHeld ?_ (hv := by exact fun _ bj => aY 57 (.tmp 4) rfl gX rfl _ _ _ bj.1 Try.underlying57 rfl HLB.out)
 refine pu 1 ag.out ?_
 refine tk 2 ag.out bM.out hHeld ?_ (hv := by exact fun _ bj => aY 76 (.tmp 7) rfl gA rfl _ _ _ bj.2 Try.underlying76 rfl (by kernel_rfl))
 refine ru (σ := Nat × Value) 2 #[true, true, true, true, true, true, true, true, true, false, false] (fun s => [(19, fv (cv a)), (20, .tuple #[s.2, .int .i64 1]), (15, .tuple #[s.2, .int .i64 1]), (21, s.2), (22, .int .i64 1), (11, .pointer (some ⟨s.1, 0, none⟩))]) (fun s w' => Aside0 (Below w.heap.size w w') ∧ Aside0 (Kd.R (Kd.int .u8) 5 w' base (fun _ => True) (.slice Af b.free.length cf) b.free) ∧ Aside0 (Kd.R lf 85 w' base (fun _ => True) (.slice Aa b.attrs.length ca) b.attrs) ∧ Aside0 (Kd.R (Kd.int .i64) 3 w' base (fun _ => True) (.slice As b.slots.length cs) b.slots) ∧ Aside0 (Kd.R (Kd.int .i64) 3 w' base (fun _ => True) (.slice Ap b.free.length cp) b.free) ∧ Aside0 (Kd.R ia 76 w' base (fun _ => True) (.slice Am M.length cm) M) ∧ Aside0 (aX w' gX (bk b.addr b.aff b.slots (.slice Af b.free.length cf) (.slice Aa b.attrs.length ca)) 57) ∧ Aside0 (aX w' gY (dH b.addr b.aff (.slice As b.slots.length cs) (.slice Ap b.free.length cp) (.slice Am M.length cm)) 62) ∧ Aside0 (aX w' gA [.string a.f0, .string a.f1] 76) ∧ Aside0 (aX w' gZ bu 57) ∧ Aside0 (aX w' gU dW 62) ∧ Aside0 (aX w' s.1 bu 57) ∧ Aside0 (w.heap.size ≤ s.1) ∧ Aside0 (gX ≠ s.1) ∧ Aside0 (gZ ≠ s.1) ∧ Aside0 (eP w' base s.2 nb)) ?_ ?_
 rotate_left
 ·intro fe
  refine tw 3 8 ag.out (fun K hK => ?_) (fun K hK => ?_)
  ·skip
   refine gs Try.func50 #[.agg #[.string a.f0, .string a.f1]] (lF a _) ?_
   rintro e V3 ⟨rfl, I⟩
   refine ⟨_, rfl, ?_⟩
   (try replace hV := mv I hV); (try replace hQ := mv I hQ); replace hB := mv I hB; replace hF := mv I hF; replace hG := mv I hG; replace hS := mv I hS; replace hP := mv I hP; replace hM := mv I hM; replace hX := mv I hX; replace hY := mv I hY; replace hA := mv I hA; replace hZ := mv I hZ; replace hU := mv I hU; clear  I
   refine kn hK ⟨hX.out, hA.out⟩ (fun hHeld => ?_)
   clear hK K
   refine tw 4 8 ag.out (fun K hK => ?_) (fun K hK => ?_)
   ·skip
    refine gs Try.func51 #[.agg (bk b.addr b.aff b.slots (.slice Af b.free.length cf) (.slice Aa b.attrs.length ca)).toArray, .int .u32 x, fv (cv a)] (HAT.out _ _ ⟨_, _, _, _, rfl, ⟨HL.out, (rr hF).1, (rr hF).2, (rr hG).1, (rr hG).2⟩⟩) ?_
    rintro e V4 ⟨v_, rfl, bc, I⟩
    refine ⟨_, rfl, ?_⟩
    have hV := ak (bc.lower (lb HBASE hB)); (try replace hQ := mv I hQ); replace hB := mv I hB; replace hF := mv I hF; replace hG := mv I hG; replace hS := mv I hS; replace hP := mv I hP; replace hM := mv I hM; replace hX := mv I hX; replace hY := mv I hY; replace hA := mv I hA; replace hZ := mv I hZ; replace hU := mv I hU; clear bc I
    refine kn hK ⟨hX.out, hA.out⟩ (fun hHeld => ?_)
    clear hK K
    refine pu 5 ag.out ?_
    refine pu 6 ag.out ?_
    refine pu 7 ag.out ?_
    refine on 8 ag.out (fun K hK => ?_)
    refine eJ (by rfl) 57 rfl bu b6 ?_
    intro gQ V8 J aa I
    have dr := ge hB J
    have bI := ne hX J
    have bs := ne hZ J
    (try replace hV := mv I hV)
    replace hB := mv I hB
    replace hF := mv I hF
    replace hG := mv I hG
    replace hS := mv I hS
    replace hP := mv I hP
    replace hM := mv I hM
    replace hX := mv I hX
    replace hY := mv I hY
    replace hA := mv I hA
    replace hZ := mv I hZ
    replace hU := mv I hU
    have hQ := ak aa
    clear J aa I
    refine kn hK ⟨hX.out, hA.out⟩ (fun hHeld => ?_)
    clear hK K
    exact nc (fe ⟨gQ, v_⟩ _ ⟨hB, hF, hG, hS, hP, hM, hX, hY, hA, hZ, hU, hQ, dr, bI, bs, hV⟩)
   ·skip
    refine eJ (by rfl) 57 rfl bu b6 ?_
    intro gQ V8 J aa I
    have dr := ge hB J
    have bI := ne hX J
    have bs := ne hZ J
    (try replace hV := mv I hV)
    replace hB := mv I hB
    replace hF := mv I hF
    replace hG := mv I hG
    replace hS := mv I hS
    replace hP := mv I hP
    replace hM := mv I hM
    replace hX := mv I hX
    replace hY := mv I hY
    replace hA := mv I hA
    replace hZ := mv I hZ
    replace hU := mv I hU
    have hQ := ak aa
    clear J aa I
    refine kn hK ⟨hX.out, hA.out⟩ (fun hHeld => ?_)
    clear hK K
    refine on 4 ag.out (fun K hK => ?_)
    refine gs Try.func51 #[.agg (bk b.addr b.aff b.slots (.slice Af b.free.length cf) (.slice Aa b.attrs.length ca)).toArray, .int .u32 x, fv (cv a)] (HAT.out _ _ ⟨_, _, _, _, rfl, ⟨HL.out, (rr hF).1, (rr hF).2, (rr hG).1, (rr hG).2⟩⟩) ?_
    rintro e V4 ⟨v_, rfl, bc, I⟩
    refine ⟨_, rfl, ?_⟩
    have hV := ak (bc.lower (lb HBASE hB)); (try replace hQ := mv I hQ); replace hB := mv I hB; replace hF := mv I hF; replace hG := mv I hG; replace hS := mv I hS; replace hP := mv I hP; replace hM := mv I hM; replace hX := mv I hX; replace hY := mv I hY; replace hA := mv I hA; replace hZ := mv I hZ; replace hU := mv I hU; clear bc I
    refine kn hK ⟨hX.out, hA.out⟩ (fun hHeld => ?_)
    clear hK K
    refine pu 5 ag.out ?_
    refine pu 6 ag.out ?_
    refine pu 7 ag.out ?_
    exact nc (fe ⟨gQ, v_⟩ _ ⟨hB, hF, hG, hS, hP, hM, hX, hY, hA, hZ, hU, hQ, dr, bI, bs, hV⟩)
  ·skip
   refine eJ (by rfl) 57 rfl bu b6 ?_
   intro gQ V8 J aa I
   have dr := ge hB J
   have bI := ne hX J
   have bs := ne hZ J
   (try replace hV := mv I hV)
   replace hB := mv I hB
   replace hF := mv I hF
   replace hG := mv I hG
   replace hS := mv I hS
   replace hP := mv I hP
   replace hM := mv I hM
   replace hX := mv I hX
   replace hY := mv I hY
   replace hA := mv I hA
   replace hZ := mv I hZ
   replace hU := mv I hU
   have hQ := ak aa
   clear J aa I
   refine kn hK ⟨hX.out, hA.out⟩ (fun hHeld => ?_)
   clear hK K
   refine on 3 ag.out (fun K hK => ?_)
   refine gs Try.func50 #[.agg #[.string a.f0, .string a.f1]] (lF a _) ?_
   rintro e V3 ⟨rfl, I⟩
   refine ⟨_, rfl, ?_⟩
   (try replace hV := mv I hV); (try replace hQ := mv I hQ); replace hB := mv I hB; replace hF := mv I hF; replace hG := mv I hG; replace hS := mv I hS; replace hP := mv I hP; replace hM := mv I hM; replace hX := mv I hX; replace hY := mv I hY; replace hA := mv I hA; replace hZ := mv I hZ; replace hU := mv I hU; clear  I
   refine kn hK ⟨hX.out, hA.out⟩ (fun hHeld => ?_)
   clear hK K
   refine on 4 ag.out (fun K hK => ?_)
   refine gs Try.func51 #[.agg (bk b.addr b.aff b.slots (.slice Af b.free.length cf) (.slice Aa b.attrs.length ca)).toArray, .int .u32 x, fv (cv a)] (HAT.out _ _ ⟨_, _, _, _, rfl, ⟨HL.out, (rr hF).1, (rr hF).2, (rr hG).1, (rr hG).2⟩⟩) ?_
   rintro e V4 ⟨v_, rfl, bc, I⟩
   refine ⟨_, rfl, ?_⟩
   have hV := ak (bc.lower (lb HBASE hB)); (try replace hQ := mv I hQ); replace hB := mv I hB; replace hF := mv I hF; replace hG := mv I hG; replace hS := mv I hS; replace hP := mv I hP; replace hM := mv I hM; replace hX := mv I hX; replace hY := mv I hY; replace hA := mv I hA; replace hZ := mv I hZ; replace hU := mv I hU; clear bc I
   refine kn hK ⟨hX.out, hA.out⟩ (fun hHeld => ?_)
   clear hK K
   refine pu 5 ag.out ?_
   refine pu 6 ag.out ?_
   refine pu 7 ag.out ?_
   exact nc (fe ⟨gQ, v_⟩ _ ⟨hB, hF, hG, hS, hP, hM, hX, hY, hA, hZ, hU, hQ, dr, bI, bs, hV⟩)
 intro s w' hFF; obtain ⟨gQ, v_⟩ := s; simp only at hFF; obtain ⟨hB, hF, hG, hS, hP, hM, hX, hY, hA, hZ, hU, hQ, dr, bI, bs, hV⟩ := hFF; have bc := hV.out; obtain ⟨iZ, p6, p7, rfl, dM, ew⟩ := bc; obtain ⟨A8, c8, rfl⟩ := Kd.R_slice dM; obtain ⟨A9, c9, rfl⟩ := Kd.R_slice ew; have hC := ak dM; have hD := ak ew; clear hV iZ dM ew
 refine nj ?_
 refine ow 9 ag.out (fun K hK => ?_)
 refine bS (by rfl) rfl 57 (.tmp 11) (.tmp 21) rfl gQ (bk nb.addr nb.aff nb.slots (.slice A8 nb.free.length c8) (.slice A9 nb.attrs.length c9)) rfl rfl 57 _ hQ.out 68 (by kernel_rfl) (ao _ _ _ _ _ HNL.out) rfl (cA _ _ _ _ _ rfl rfl) ?_
 intro V9 aa J; replace hB := gb hB dr J; replace hF := gr hF hQ J; replace hG := gr hG hQ J; replace hS := gr hS hQ J; replace hP := gr hP hQ J; replace hM := gr hM hQ J; replace hX := gn hX bI J; replace hY := gx hY hQ J; replace hA := gx hA hQ J; replace hZ := gn hZ bs J; replace hU := gx hU hQ J; replace hC := gr hC hQ J; replace hD := gr hD hQ J; replace hQ := ak (aa); clear aa J
 refine hK.out _ _ ⟨hX.out, hA.out⟩ (fun hHeld => ?_)
 clear hK K
 refine pu 10 ag.out ?_
 refine dn ag.out ?_
 clear hHeld
 have HLN := ak (dc (bk nb.addr nb.aff nb.slots (.slice A8 nb.free.length c8) (.slice A9 nb.attrs.length c9)) (ao _ _ _ _ _ HNL.out))
 have HZR := ak (fun v w h => oH v w (by rw [← HNB.out]; exact h))
 go_wp2_with (first
  | ((with_reducible refine aJ (N := 23) rfl ?_); refine aN rfl 76 (.tmp 7) rfl gA rfl _ _ _ hA.out Try.underlying76 rfl 2 (by kernel_rfl) rfl ?_)
  | (go_at_call 60; refine (HMY.out _).mono ?_; rintro e sQ ⟨rfl, I⟩; have jB := mv I hB; have kg := mv I hF; have ke := mv I hG; have iV := mv I hS; have iW := mv I hP; have iX := mv I hM; have j8 := mv I hX; have iU := mv I hY; have p5 := mv I hA; have j7 := mv I hZ; have j9 := mv I hU; have kb := mv I hQ; have kl := mv I hC; have kj := mv I hD; clear I hB hF hG hS hP hM hX hY hA hZ hU hQ hC hD))
 have aq : Below sQ.heap.size sQ sQ.drew := bL (Below.refl _ _)
 have jS := mv aq jB; have kf := mv aq kg; have kc := mv aq ke; have jy := mv aq iV; have jz := mv aq iW; have jA := mv aq iX; have jO := mv aq j8; have jg := mv aq iU; have pZ := mv aq p5; have jN := mv aq j7; have jQ := mv aq j9; have jR := mv aq kb; have kk := mv aq kl; have ki := mv aq kj
 clear aq jB kg ke iV iW iX j8 iU p5 j7 j9 kb kl kj
 have hB := jS
 have hF := kf
 have hG := kc
 have hS := jy
 have hP := jz
 have hM := jA
 have hX := jO
 have hY := jg
 have hA := pZ
 have hZ := jN
 have hU := jQ
 have hQ := jR
 have hC := kk
 have hD := ki
 clear jS kf kc jy jz jA jO jg pZ jN jQ jR kk ki
 refine dR (n := 11) (S := fun w' => aX w' gX (bk b.addr b.aff b.slots (.slice Af b.free.length cf) (.slice Aa b.attrs.length ca)) 57 ∧ aX w' gY (dH b.addr b.aff (.slice As b.slots.length cs) (.slice Ap b.free.length cp) (.slice Am M.length cm)) 62 ∧ aX w' gQ (bk nb.addr nb.aff nb.slots (.slice A8 nb.free.length c8) (.slice A9 nb.attrs.length c9)) 57) (ds := []) #[false, false, false, false, false, false, false, false, false, false, false] (by kernel_rfl) rfl rfl ⟨hX.out, hY.out, hQ.out⟩ (fun hHeld => ?_); refine b5 uB.tab3 uB.bits3 (fun ag bM => ?_)
 refine tk 0 ag.out bM.out hHeld ?_ (hv := by exact fun _ bj => aY 57 (.tmp 4) rfl gX rfl _ _ _ bj.1 Try.underlying57 rfl HLB.out)
 refine tk 1 ag.out bM.out hHeld ?_ (hv := by exact fun _ bj => aY 62 (.tmp 5) rfl gY rfl _ _ _ bj.2.1 Try.underlying62 rfl (by kernel_rfl))
 refine pu 2 ag.out ?_
 refine pu 3 ag.out ?_
 refine pu 4 ag.out ?_
 refine tk 5 ag.out bM.out hHeld ?_ (hv := by exact fun _ bj => aY 57 (.tmp 11) rfl gQ rfl _ _ _ bj.2.2 Try.underlying57 rfl HLN.out)
 refine on 6 ag.out (fun K hK => ?_)
 refine gs Try.func43 #[.agg (bk nb.addr nb.aff nb.slots (.slice A8 nb.free.length c8) (.slice A9 nb.attrs.length c9)).toArray] (HZR.out _ _ ⟨_, _, _, _, rfl, ⟨HNL.out, (rr hC).1, (rr hC).2, (rr hD).1, (rr hD).2⟩⟩) ?_
 rintro e V6 ⟨rfl, I⟩
 refine ⟨_, rfl, ?_⟩
 replace hB := mv I hB; replace hF := mv I hF; replace hG := mv I hG; replace hS := mv I hS; replace hP := mv I hP; replace hM := mv I hM; replace hX := mv I hX; replace hY := mv I hY; replace hA := mv I hA; replace hZ := mv I hZ; replace hU := mv I hU; replace hQ := mv I hQ; replace hC := mv I hC; replace hD := mv I hD
 refine kn hK ⟨hX.out, hY.out, hQ.out⟩ (fun hHeld => ?_)
 clear hK K
 refine pu 7 ag.out ?_
 refine ow 8 ag.out (fun K hK => ?_)
 refine bS (by rfl) rfl 57 (.tmp 8) (.tmp 32) rfl gZ (bk b.addr b.aff b.slots (.slice Af b.free.length cf) (.slice Aa b.attrs.length ca)) rfl rfl 57 _ hZ.out 68 (by kernel_rfl) (ao _ _ _ _ _ HL.out) rfl (cA _ _ _ _ _ rfl rfl) ?_
 intro V8 aa J; replace hB := gb hB ct J; replace hF := gr hF hZ J; replace hG := gr hG hZ J; replace hS := gr hS hZ J; replace hP := gr hP hZ J; replace hM := gr hM hZ J; replace hX := gn hX aU J; replace hY := gx hY hZ J; replace hA := gx hA hZ J; replace hU := gx hU hZ J; replace hQ := gm hQ bs J; replace hC := gr hC hZ J; replace hD := gr hD hZ J; replace hZ := ak (aa); clear aa J
 refine hK.out _ _ ⟨hX.out, hY.out, hQ.out⟩ (fun hHeld => ?_)
 clear hK K
 refine ow 9 ag.out (fun K hK => ?_)
 refine bS (by rfl) rfl 62 (.tmp 9) (.tmp 33) rfl gU (dH b.addr b.aff (.slice As b.slots.length cs) (.slice Ap b.free.length cp) (.slice Am M.length cm)) rfl rfl 62 _ hU.out 5 (by kernel_rfl) rfl rfl (et _ _ rfl rfl rfl) ?_
 intro V9 aa J; replace hB := gb hB fR J; replace hF := gr hF hU J; replace hG := gr hG hU J; replace hS := gr hS hU J; replace hP := gr hP hU J; replace hM := gr hM hU J; replace hX := gx hX hU J; replace hY := gn hY dO J; replace hA := gx hA hU J; replace hZ := gx hZ hU J; replace hQ := gx hQ hU J; replace hC := gr hC hU J; replace hD := gr hD hU J; replace hU := ak (aa); clear aa J
 refine hK.out _ _ ⟨hX.out, hY.out, hQ.out⟩ (fun hHeld => ?_)
 clear hK K
 refine pu 10 ag.out ?_
 refine dn ag.out ?_
 clear hHeld
 go_wp2_with fail
 refine bodyPost_ret (fD rfl _ _ _ gZ gU 57 62 _ _ _ _ rfl hZ.out rfl Try.underlying57 (by first | exact HLB.out | exact HLN.out) rfl hU.out rfl Try.underlying62 (by kernel_rfl)) rfl ⟨_, _, b, rfl, ?_, ?_, ?_, hB.out⟩
 ·exact HG.out
 ·exact ⟨HL.out, _, _, rfl, hF.out, hG.out⟩
 ·exact ⟨_, _, _, rfl, hS.out, hP.out, by rw [← HM.out]; exact hM.out⟩
set_option maxHeartbeats 16000000 in
set_option maxRecDepth 100000 in
theorem FD (b : Bk) (hg : RG b) (x : Int) (h0 : 0 ≤ x) (h1 : x < 4294967296) (a : lN) (fE : a.f0.size ≤ 9223372036854775807) (gh : a.f1.size ≤ 9223372036854775807) (hma : fj (cv a) = true) (hin : cC x ≠ b.addr) (v v2 : Value) (w : World) (base : Nat) (hbase : base ≤ w.heap.size) (hO : eP w base v b) (hR : fw w base v2 b) :
  Calls Try.prog 83 #[v, v2, .int .u32 x, .agg #[.string a.f0, .string a.f1]] w fun e w' => ∃ v1 v2 b', e = .returned (.tuple #[v1, v2, .bool true]) ∧ RG b' ∧ eP w' base v1 b' ∧ fw w' base v2 b' ∧ Below w.heap.size w w' := by
 obtain ⟨hl, vf, va, rfl, hf, ha⟩ := hO
 obtain ⟨vs, vp, vm, rfl, hs, hp, hm⟩ := hR
 obtain ⟨Af, cf, rfl⟩ := Kd.R_slice hf
 obtain ⟨Aa, ca, rfl⟩ := Kd.R_slice ha
 obtain ⟨As, cs, rfl⟩ := Kd.R_slice hs
 obtain ⟨Ap, cp, rfl⟩ := Kd.R_slice hp
 obtain ⟨M, hM⟩ : ∃ M, M = b.attrs.map vc := ⟨_, rfl⟩
 rw [← hM] at hm
 obtain ⟨Am, cm, rfl⟩ := Kd.R_slice hm
 have HL := ak hl
 have HM := ak hM
 have bU := ak hf
 have eT := ak ha
 have bl := ak hs
 have eR := ak hp
 have cb := ak hm
 have HG := ak hg
 have an := ak (Below.refl w.heap.size w)
 have HBASE := ak hbase
 have HLB := ak (dc (bk b.addr b.aff b.slots (.slice Af b.free.length cf) (.slice Aa b.attrs.length ca)) (ao _ _ _ _ _ HL.out))
 have hno : (fj (cv a) && decide (cC x = b.addr)) = false := by rw [decide_eq_false hin, Bool.and_false]
 have e1 : q8 b x (cv a) = false := by unfold q8; rw [hno, Bool.and_false]
 have e2 : sO b x (cv a) = 1 := by unfold sO; rw [if_neg (by rw [e1]; decide)]
 have e3 : oL b x (cv a) = kC := by unfold oL; rw [if_neg (by rw [e1]; decide)]
 have hat := fun v w h => pH b hg.ok x h0 h1 (cv a) v w h
 rw [e2, e3] at hat
 have hnl : kC.slots.length = 64 := rfl
 obtain ⟨nb, hnb⟩ : ∃ nb, nb = kC := ⟨_, rfl⟩
 rw [← hnb] at hat hnl
 have HNL := ak hnl
 have HAT := ak hat
 have HNB := ak hnb
 have HMY := ak (fun w => sw a fE gh w)
 have HIN := ak (fun w h => vZ b M As Ap Am cs cp cm w h x h0 h1)
 have HOF := ak (fun w h => rK b hl hg.ok.s8 (fun s hs => (hg.s0 s hs).2) M As Ap Am cs cp cm w h x h0 h1)
 rw [hma] at HMY
 rw [decide_eq_false hin] at HIN
 clear hma hno hin hl hM hf ha hs hp hm hg e1 e2 e3 hat hnl hnb hbase
 go_enter Try.func83, Try.ntmps83
 go_wp2_with (first
  | (refine aV rfl 57 (.tmp 0) rfl _ rfl ?_; intro gX W1 J aa I; have cw := ge an J; have aA := ak (an.out.trans (I.mono an.out.size)); have bJ := mv I bU; have ea := mv I eT; have bC := mv I bl; have ee := mv I eR; have b7 := mv I cb; have au := ak (aa); clear J aa I an bU eT bl eR cb)
  | (refine aV rfl 62 (.tmp 1) rfl _ rfl ?_; intro gY W2 J aa I; have jT := ge aA J; have gC := ne au J; have aK := mv I aA; have ch := mv I bJ; have er := mv I ea; have b4 := mv I bC; have ej := mv I ee; have dm := mv I b7; have aI := mv I au; have dk := ak (aa); clear J aa I aA bJ ea bC ee b7 au)
  | (refine aV rfl 76 (.tmp 3) rfl _ rfl ?_; intro gA W3 J aa I; have lI := ge aK J; have fq := ne aI J; have zd := ne dk J; have aT := mv I aK; have cW := mv I ch; have eG := mv I er; have cH := mv I b4; have eN := mv I ej; have dT := ak (Kd.R_mono (ok' := fun k_ => True) (Kd.R_below dm.out I) (fun _ _ => trivial)); have aQ := mv I aI; have dj := mv I dk; have eg := ak (aa); clear J aa I aK ch er b4 ej dm aI dk)
  | (refine aH (some 8) rfl rfl 57 rfl bu b6 ?_; intro gZ W4 J aa I; have ct := ge aT J; have aU := ne aQ J; have gS := ne dj J; have ij := ne eg J; have bq := mv I aT; have cU := mv I cW; have eo := mv I eG; have dC := mv I cH; have fg := mv I eN; have dZ := mv I dT; have bg := mv I aQ; have di := mv I dj; have eD := mv I eg; have bB := ak (aa); clear J aa I aT cW eG cH eN dT aQ dj eg)
  | (refine aH (some 9) rfl rfl 62 rfl dW (fun _ => by kernel_rfl) ?_; intro gU W5 J aa I; have fR := ge bq J; have ig := ne bg J; have dO := ne di J; have ze := ne eD J; have iA := ne bB J; have bE := mv I bq; have cQ := mv I cU; have dJ := mv I eo; have dG := mv I dC; have eV := mv I fg; have dw := mv I dZ; have bz := mv I bg; have dY := mv I di; have fB := mv I eD; have bY := mv I bB; have ff := ak (aa); clear J aa I bq cU eo dC fg dZ bg di eD bB))
 have aq : Below W5.heap.size W5 W5.drew := bL (Below.refl _ _)
 have bZ := mv aq bE; have dD := mv aq cQ; have ef := mv aq dJ; have dN := mv aq dG; have eU := mv aq eV; have ez := mv aq dw; have bH := mv aq bz; have du := mv aq dY; have gi := mv aq fB; have cn := mv aq bY; have dI := mv aq ff
 clear aq bE cQ dJ dG eV dw bz dY fB bY ff
 have hB := bZ
 have hF := dD
 have hG := ef
 have hS := dN
 have hP := eU
 have hM := ez
 have hX := bH
 have hY := du
 have hA := gi
 have hZ := cn
 have hU := dI
 clear bZ dD ef dN eU ez bH du gi cn dI
 refine dR (n := 11) (S := fun w' => aX w' gX (bk b.addr b.aff b.slots (.slice Af b.free.length cf) (.slice Aa b.attrs.length ca)) 57 ∧ aX w' gA [.string a.f0, .string a.f1] 76) (ds := []) #[false, false, false, false, false, false, false, false, false, false, false] (by kernel_rfl) rfl rfl ⟨hX.out, hA.out⟩ (fun hHeld => ?_); refine b5 pn.tab1 pn.bits1 (fun ag bM => ?_)
 refine tk 0 ag.out bM.out hHeld ?_ (hv := by exact fun _ bj => aY 57 (.tmp 4) rfl gX rfl _ _ _ bj.1 Try.underlying57 rfl HLB.out)
 refine pu 1 ag.out ?_
 refine tk 2 ag.out bM.out hHeld ?_ (hv := by exact fun _ bj => aY 76 (.tmp 7) rfl gA rfl _ _ _ bj.2 Try.underlying76 rfl (by kernel_rfl))
 refine ru (σ := Nat × Value) 2 #[true, true, true, true, true, true, true, true, true, false, false] (fun s => [(19, fv (cv a)), (20, .tuple #[s.2, .int .i64 1]), (15, .tuple #[s.2, .int .i64 1]), (21, s.2), (22, .int .i64 1), (11, .pointer (some ⟨s.1, 0, none⟩))]) (fun s w' => Aside0 (Below w.heap.size w w') ∧ Aside0 (Kd.R (Kd.int .u8) 5 w' base (fun _ => True) (.slice Af b.free.length cf) b.free) ∧ Aside0 (Kd.R lf 85 w' base (fun _ => True) (.slice Aa b.attrs.length ca) b.attrs) ∧ Aside0 (Kd.R (Kd.int .i64) 3 w' base (fun _ => True) (.slice As b.slots.length cs) b.slots) ∧ Aside0 (Kd.R (Kd.int .i64) 3 w' base (fun _ => True) (.slice Ap b.free.length cp) b.free) ∧ Aside0 (Kd.R ia 76 w' base (fun _ => True) (.slice Am M.length cm) M) ∧ Aside0 (aX w' gX (bk b.addr b.aff b.slots (.slice Af b.free.length cf) (.slice Aa b.attrs.length ca)) 57) ∧ Aside0 (aX w' gY (dH b.addr b.aff (.slice As b.slots.length cs) (.slice Ap b.free.length cp) (.slice Am M.length cm)) 62) ∧ Aside0 (aX w' gA [.string a.f0, .string a.f1] 76) ∧ Aside0 (aX w' gZ bu 57) ∧ Aside0 (aX w' gU dW 62) ∧ Aside0 (aX w' s.1 bu 57) ∧ Aside0 (w.heap.size ≤ s.1) ∧ Aside0 (gX ≠ s.1) ∧ Aside0 (gZ ≠ s.1) ∧ Aside0 (eP w' base s.2 nb)) ?_ ?_
 rotate_left
 ·intro fe
  refine tw 3 8 ag.out (fun K hK => ?_) (fun K hK => ?_)
  ·skip
   refine gs Try.func50 #[.agg #[.string a.f0, .string a.f1]] (lF a _) ?_
   rintro e V3 ⟨rfl, I⟩
   refine ⟨_, rfl, ?_⟩
   (try replace hV := mv I hV); (try replace hQ := mv I hQ); replace hB := mv I hB; replace hF := mv I hF; replace hG := mv I hG; replace hS := mv I hS; replace hP := mv I hP; replace hM := mv I hM; replace hX := mv I hX; replace hY := mv I hY; replace hA := mv I hA; replace hZ := mv I hZ; replace hU := mv I hU; clear  I
   refine kn hK ⟨hX.out, hA.out⟩ (fun hHeld => ?_)
   clear hK K
   refine tw 4 8 ag.out (fun K hK => ?_) (fun K hK => ?_)
   ·skip
    refine gs Try.func51 #[.agg (bk b.addr b.aff b.slots (.slice Af b.free.length cf) (.slice Aa b.attrs.length ca)).toArray, .int .u32 x, fv (cv a)] (HAT.out _ _ ⟨_, _, _, _, rfl, ⟨HL.out, (rr hF).1, (rr hF).2, (rr hG).1, (rr hG).2⟩⟩) ?_
    rintro e V4 ⟨v_, rfl, bc, I⟩
    refine ⟨_, rfl, ?_⟩
    have hV := ak (bc.lower (lb HBASE hB)); (try replace hQ := mv I hQ); replace hB := mv I hB; replace hF := mv I hF; replace hG := mv I hG; replace hS := mv I hS; replace hP := mv I hP; replace hM := mv I hM; replace hX := mv I hX; replace hY := mv I hY; replace hA := mv I hA; replace hZ := mv I hZ; replace hU := mv I hU; clear bc I
    refine kn hK ⟨hX.out, hA.out⟩ (fun hHeld => ?_)
    clear hK K
    refine pu 5 ag.out ?_
    refine pu 6 ag.out ?_
    refine pu 7 ag.out ?_
    refine on 8 ag.out (fun K hK => ?_)
    refine eJ (by rfl) 57 rfl bu b6 ?_
    intro gQ V8 J aa I
    have dr := ge hB J
    have bI := ne hX J
    have bs := ne hZ J
    (try replace hV := mv I hV)
    replace hB := mv I hB
    replace hF := mv I hF
    replace hG := mv I hG
    replace hS := mv I hS
    replace hP := mv I hP
    replace hM := mv I hM
    replace hX := mv I hX
    replace hY := mv I hY
    replace hA := mv I hA
    replace hZ := mv I hZ
    replace hU := mv I hU
    have hQ := ak aa
    clear J aa I
    refine kn hK ⟨hX.out, hA.out⟩ (fun hHeld => ?_)
    clear hK K
    exact nc (fe ⟨gQ, v_⟩ _ ⟨hB, hF, hG, hS, hP, hM, hX, hY, hA, hZ, hU, hQ, dr, bI, bs, hV⟩)
   ·skip
    refine eJ (by rfl) 57 rfl bu b6 ?_
    intro gQ V8 J aa I
    have dr := ge hB J
    have bI := ne hX J
    have bs := ne hZ J
    (try replace hV := mv I hV)
    replace hB := mv I hB
    replace hF := mv I hF
    replace hG := mv I hG
    replace hS := mv I hS
    replace hP := mv I hP
    replace hM := mv I hM
    replace hX := mv I hX
    replace hY := mv I hY
    replace hA := mv I hA
    replace hZ := mv I hZ
    replace hU := mv I hU
    have hQ := ak aa
    clear J aa I
    refine kn hK ⟨hX.out, hA.out⟩ (fun hHeld => ?_)
    clear hK K
    refine on 4 ag.out (fun K hK => ?_)
    refine gs Try.func51 #[.agg (bk b.addr b.aff b.slots (.slice Af b.free.length cf) (.slice Aa b.attrs.length ca)).toArray, .int .u32 x, fv (cv a)] (HAT.out _ _ ⟨_, _, _, _, rfl, ⟨HL.out, (rr hF).1, (rr hF).2, (rr hG).1, (rr hG).2⟩⟩) ?_
    rintro e V4 ⟨v_, rfl, bc, I⟩
    refine ⟨_, rfl, ?_⟩
    have hV := ak (bc.lower (lb HBASE hB)); (try replace hQ := mv I hQ); replace hB := mv I hB; replace hF := mv I hF; replace hG := mv I hG; replace hS := mv I hS; replace hP := mv I hP; replace hM := mv I hM; replace hX := mv I hX; replace hY := mv I hY; replace hA := mv I hA; replace hZ := mv I hZ; replace hU := mv I hU; clear bc I
    refine kn hK ⟨hX.out, hA.out⟩ (fun hHeld => ?_)
    clear hK K
    refine pu 5 ag.out ?_
    refine pu 6 ag.out ?_
    refine pu 7 ag.out ?_
    exact nc (fe ⟨gQ, v_⟩ _ ⟨hB, hF, hG, hS, hP, hM, hX, hY, hA, hZ, hU, hQ, dr, bI, bs, hV⟩)
  ·skip
   refine eJ (by rfl) 57 rfl bu b6 ?_
   intro gQ V8 J aa I
   have dr := ge hB J
   have bI := ne hX J
   have bs := ne hZ J
   (try replace hV := mv I hV)
   replace hB := mv I hB
   replace hF := mv I hF
   replace hG := mv I hG
   replace hS := mv I hS
   replace hP := mv I hP
   replace hM := mv I hM
   replace hX := mv I hX
   replace hY := mv I hY
   replace hA := mv I hA
   replace hZ := mv I hZ
   replace hU := mv I hU
   have hQ := ak aa
   clear J aa I
   refine kn hK ⟨hX.out, hA.out⟩ (fun hHeld => ?_)
   clear hK K
   refine on 3 ag.out (fun K hK => ?_)
   refine gs Try.func50 #[.agg #[.string a.f0, .string a.f1]] (lF a _) ?_
   rintro e V3 ⟨rfl, I⟩
   refine ⟨_, rfl, ?_⟩
   (try replace hV := mv I hV); (try replace hQ := mv I hQ); replace hB := mv I hB; replace hF := mv I hF; replace hG := mv I hG; replace hS := mv I hS; replace hP := mv I hP; replace hM := mv I hM; replace hX := mv I hX; replace hY := mv I hY; replace hA := mv I hA; replace hZ := mv I hZ; replace hU := mv I hU; clear  I
   refine kn hK ⟨hX.out, hA.out⟩ (fun hHeld => ?_)
   clear hK K
   refine on 4 ag.out (fun K hK => ?_)
   refine gs Try.func51 #[.agg (bk b.addr b.aff b.slots (.slice Af b.free.length cf) (.slice Aa b.attrs.length ca)).toArray, .int .u32 x, fv (cv a)] (HAT.out _ _ ⟨_, _, _, _, rfl, ⟨HL.out, (rr hF).1, (rr hF).2, (rr hG).1, (rr hG).2⟩⟩) ?_
   rintro e V4 ⟨v_, rfl, bc, I⟩
   refine ⟨_, rfl, ?_⟩
   have hV := ak (bc.lower (lb HBASE hB)); (try replace hQ := mv I hQ); replace hB := mv I hB; replace hF := mv I hF; replace hG := mv I hG; replace hS := mv I hS; replace hP := mv I hP; replace hM := mv I hM; replace hX := mv I hX; replace hY := mv I hY; replace hA := mv I hA; replace hZ := mv I hZ; replace hU := mv I hU; clear bc I
   refine kn hK ⟨hX.out, hA.out⟩ (fun hHeld => ?_)
   clear hK K
   refine pu 5 ag.out ?_
   refine pu 6 ag.out ?_
   refine pu 7 ag.out ?_
   exact nc (fe ⟨gQ, v_⟩ _ ⟨hB, hF, hG, hS, hP, hM, hX, hY, hA, hZ, hU, hQ, dr, bI, bs, hV⟩)
 intro s w' hFF; obtain ⟨gQ, v_⟩ := s; simp only at hFF; obtain ⟨hB, hF, hG, hS, hP, hM, hX, hY, hA, hZ, hU, hQ, dr, bI, bs, hV⟩ := hFF; have bc := hV.out; obtain ⟨iZ, p6, p7, rfl, dM, ew⟩ := bc; obtain ⟨A8, c8, rfl⟩ := Kd.R_slice dM; obtain ⟨A9, c9, rfl⟩ := Kd.R_slice ew; have hC := ak dM; have hD := ak ew; clear hV iZ dM ew
 refine nj ?_
 refine ow 9 ag.out (fun K hK => ?_)
 refine bS (by rfl) rfl 57 (.tmp 11) (.tmp 21) rfl gQ (bk nb.addr nb.aff nb.slots (.slice A8 nb.free.length c8) (.slice A9 nb.attrs.length c9)) rfl rfl 57 _ hQ.out 68 (by kernel_rfl) (ao _ _ _ _ _ HNL.out) rfl (cA _ _ _ _ _ rfl rfl) ?_
 intro V9 aa J; replace hB := gb hB dr J; replace hF := gr hF hQ J; replace hG := gr hG hQ J; replace hS := gr hS hQ J; replace hP := gr hP hQ J; replace hM := gr hM hQ J; replace hX := gn hX bI J; replace hY := gx hY hQ J; replace hA := gx hA hQ J; replace hZ := gn hZ bs J; replace hU := gx hU hQ J; replace hC := gr hC hQ J; replace hD := gr hD hQ J; replace hQ := ak (aa); clear aa J
 refine hK.out _ _ ⟨hX.out, hA.out⟩ (fun hHeld => ?_)
 clear hK K
 refine pu 10 ag.out ?_
 refine dn ag.out ?_
 clear hHeld
 have HLN := ak (dc (bk nb.addr nb.aff nb.slots (.slice A8 nb.free.length c8) (.slice A9 nb.attrs.length c9)) (ao _ _ _ _ _ HNL.out))
 have HZR := ak (fun v w h => oH v w (by rw [← HNB.out]; exact h))
 go_wp2_with (first
  | ((with_reducible refine aJ (N := 23) rfl ?_); refine aN rfl 76 (.tmp 7) rfl gA rfl _ _ _ hA.out Try.underlying76 rfl 2 (by kernel_rfl) rfl ?_)
  | (go_at_call 60; refine (HMY.out _).mono ?_; rintro e sQ ⟨rfl, I⟩; have jB := mv I hB; have kg := mv I hF; have ke := mv I hG; have iV := mv I hS; have iW := mv I hP; have iX := mv I hM; have j8 := mv I hX; have iU := mv I hY; have p5 := mv I hA; have j7 := mv I hZ; have j9 := mv I hU; have kb := mv I hQ; have kl := mv I hC; have kj := mv I hD; clear I hB hF hG hS hP hM hX hY hA hZ hU hQ hC hD)
  | ((with_reducible refine aJ (N := 27) rfl ?_); refine fk (by rfl) ?_; refine aN rfl 62 (.tmp 5) rfl gY rfl _ _ _ iU.out Try.underlying62 rfl 5 (by kernel_rfl) rfl ?_)
  | (go_at_call 100; refine (HIN.out _ (jL.of HM.out iV.out iW.out iX.out)).mono ?_; rintro e Gw ⟨rfl, I⟩; have jS := mv I jB; have kf := mv I kg; have kc := mv I ke; have jy := mv I iV; have jz := mv I iW; have jA := mv I iX; have jO := mv I j8; have jg := mv I iU; have pZ := mv I p5; have jN := mv I j7; have jQ := mv I j9; have jR := mv I kb; have kk := mv I kl; have ki := mv I kj; clear I jB kg ke iV iW iX j8 iU p5 j7 j9 kb kl kj))
 have aq : Below Gw.heap.size Gw Gw.drew := bL (Below.refl _ _)
 have nX := mv aq jS; have pU := mv aq kf; have pT := mv aq kc; have pO := mv aq jy; have pR := mv aq jz; have pS := mv aq jA; have nT := mv aq jO; have nS := mv aq jg; have qD := mv aq pZ; have nR := mv aq jN; have nV := mv aq jQ; have nW := mv aq jR; have pY := mv aq kk; have pW := mv aq ki
 clear aq jS kf kc jy jz jA jO jg pZ jN jQ jR kk ki
 have hB := nX
 have hF := pU
 have hG := pT
 have hS := pO
 have hP := pR
 have hM := pS
 have hX := nT
 have hY := nS
 have hA := qD
 have hZ := nR
 have hU := nV
 have hQ := nW
 have hC := pY
 have hD := pW
 clear nX pU pT pO pR pS nT nS qD nR nV nW pY pW
 refine dR (n := 11) (S := fun w' => aX w' gX (bk b.addr b.aff b.slots (.slice Af b.free.length cf) (.slice Aa b.attrs.length ca)) 57 ∧ aX w' gY (dH b.addr b.aff (.slice As b.slots.length cs) (.slice Ap b.free.length cp) (.slice Am M.length cm)) 62 ∧ aX w' gQ (bk nb.addr nb.aff nb.slots (.slice A8 nb.free.length c8) (.slice A9 nb.attrs.length c9)) 57) (ds := []) #[false, false, false, false, false, false, false, false, false, false, false] (by kernel_rfl) rfl rfl ⟨hX.out, hY.out, hQ.out⟩ (fun hHeld => ?_); refine b5 uB.tab3 uB.bits3 (fun ag bM => ?_)
 refine tk 0 ag.out bM.out hHeld ?_ (hv := by exact fun _ bj => aY 57 (.tmp 4) rfl gX rfl _ _ _ bj.1 Try.underlying57 rfl HLB.out)
 refine tk 1 ag.out bM.out hHeld ?_ (hv := by exact fun _ bj => aY 62 (.tmp 5) rfl gY rfl _ _ _ bj.2.1 Try.underlying62 rfl (by kernel_rfl))
 refine pu 2 ag.out ?_
 refine pu 3 ag.out ?_
 refine pu 4 ag.out ?_
 refine tk 5 ag.out bM.out hHeld ?_ (hv := by exact fun _ bj => aY 57 (.tmp 11) rfl gQ rfl _ _ _ bj.2.2 Try.underlying57 rfl HLN.out)
 refine on 6 ag.out (fun K hK => ?_)
 refine gs Try.func43 #[.agg (bk nb.addr nb.aff nb.slots (.slice A8 nb.free.length c8) (.slice A9 nb.attrs.length c9)).toArray] (HZR.out _ _ ⟨_, _, _, _, rfl, ⟨HNL.out, (rr hC).1, (rr hC).2, (rr hD).1, (rr hD).2⟩⟩) ?_
 rintro e V6 ⟨rfl, I⟩
 refine ⟨_, rfl, ?_⟩
 replace hB := mv I hB; replace hF := mv I hF; replace hG := mv I hG; replace hS := mv I hS; replace hP := mv I hP; replace hM := mv I hM; replace hX := mv I hX; replace hY := mv I hY; replace hA := mv I hA; replace hZ := mv I hZ; replace hU := mv I hU; replace hQ := mv I hQ; replace hC := mv I hC; replace hD := mv I hD
 refine kn hK ⟨hX.out, hY.out, hQ.out⟩ (fun hHeld => ?_)
 clear hK K
 refine pu 7 ag.out ?_
 refine ow 8 ag.out (fun K hK => ?_)
 refine bS (by rfl) rfl 57 (.tmp 8) (.tmp 32) rfl gZ (bk b.addr b.aff b.slots (.slice Af b.free.length cf) (.slice Aa b.attrs.length ca)) rfl rfl 57 _ hZ.out 68 (by kernel_rfl) (ao _ _ _ _ _ HL.out) rfl (cA _ _ _ _ _ rfl rfl) ?_
 intro V8 aa J; replace hB := gb hB ct J; replace hF := gr hF hZ J; replace hG := gr hG hZ J; replace hS := gr hS hZ J; replace hP := gr hP hZ J; replace hM := gr hM hZ J; replace hX := gn hX aU J; replace hY := gx hY hZ J; replace hA := gx hA hZ J; replace hU := gx hU hZ J; replace hQ := gm hQ bs J; replace hC := gr hC hZ J; replace hD := gr hD hZ J; replace hZ := ak (aa); clear aa J
 refine hK.out _ _ ⟨hX.out, hY.out, hQ.out⟩ (fun hHeld => ?_)
 clear hK K
 refine ow 9 ag.out (fun K hK => ?_)
 refine bS (by rfl) rfl 62 (.tmp 9) (.tmp 33) rfl gU (dH b.addr b.aff (.slice As b.slots.length cs) (.slice Ap b.free.length cp) (.slice Am M.length cm)) rfl rfl 62 _ hU.out 5 (by kernel_rfl) rfl rfl (et _ _ rfl rfl rfl) ?_
 intro V9 aa J; replace hB := gb hB fR J; replace hF := gr hF hU J; replace hG := gr hG hU J; replace hS := gr hS hU J; replace hP := gr hP hU J; replace hM := gr hM hU J; replace hX := gx hX hU J; replace hY := gn hY dO J; replace hA := gx hA hU J; replace hZ := gx hZ hU J; replace hQ := gx hQ hU J; replace hC := gr hC hU J; replace hD := gr hD hU J; replace hU := ak (aa); clear aa J
 refine hK.out _ _ ⟨hX.out, hY.out, hQ.out⟩ (fun hHeld => ?_)
 clear hK K
 refine pu 10 ag.out ?_
 refine dn ag.out ?_
 clear hHeld
 go_wp2_with fail
 refine bodyPost_ret (fD rfl _ _ _ gZ gU 57 62 _ _ _ _ rfl hZ.out rfl Try.underlying57 (by first | exact HLB.out | exact HLN.out) rfl hU.out rfl Try.underlying62 (by kernel_rfl)) rfl ⟨_, _, b, rfl, ?_, ?_, ?_, hB.out⟩
 ·exact HG.out
 ·exact ⟨HL.out, _, _, rfl, hF.out, hG.out⟩
 ·exact ⟨_, _, _, rfl, hS.out, hP.out, by rw [← HM.out]; exact hM.out⟩
set_option maxHeartbeats 16000000 in
set_option maxRecDepth 100000 in
theorem CS (b : Bk) (hg : RG b) (x : Int) (h0 : 0 ≤ x) (h1 : x < 4294967296) (a : lN) (fE : a.f0.size ≤ 9223372036854775807) (gh : a.f1.size ≤ 9223372036854775807) (hma : fj (cv a) = true) (hin : cC x = b.addr) (hh : ku b x = true) (v v2 : Value) (w : World) (base : Nat) (hbase : base ≤ w.heap.size) (hO : eP w base v b) (hR : fw w base v2 b) :
  Calls Try.prog 83 #[v, v2, .int .u32 x, .agg #[.string a.f0, .string a.f1]] w fun e w' => ∃ v1 v2 b', e = .returned (.tuple #[v1, v2, .bool true]) ∧ RG b' ∧ eP w' base v1 b' ∧ fw w' base v2 b' ∧ Below w.heap.size w w' := by
 obtain ⟨hl, vf, va, rfl, hf, ha⟩ := hO
 obtain ⟨vs, vp, vm, rfl, hs, hp, hm⟩ := hR
 obtain ⟨Af, cf, rfl⟩ := Kd.R_slice hf
 obtain ⟨Aa, ca, rfl⟩ := Kd.R_slice ha
 obtain ⟨As, cs, rfl⟩ := Kd.R_slice hs
 obtain ⟨Ap, cp, rfl⟩ := Kd.R_slice hp
 obtain ⟨M, hM⟩ : ∃ M, M = b.attrs.map vc := ⟨_, rfl⟩
 rw [← hM] at hm
 obtain ⟨Am, cm, rfl⟩ := Kd.R_slice hm
 have HL := ak hl
 have HM := ak hM
 have bU := ak hf
 have eT := ak ha
 have bl := ak hs
 have eR := ak hp
 have cb := ak hm
 have HG := ak hg
 have an := ak (Below.refl w.heap.size w)
 have HBASE := ak hbase
 have HLB := ak (dc (bk b.addr b.aff b.slots (.slice Af b.free.length cf) (.slice Aa b.attrs.length ca)) (ao _ _ _ _ _ HL.out))
 have e0 : qk b x = true := by unfold ku at hh; rw [decide_eq_true hin, Bool.true_and] at hh; exact hh
 have e1 : q8 b x (cv a) = true := by unfold q8; rw [hg.right, hma, decide_eq_true hin]; rfl
 have e2 : sO b x (cv a) = 11 := by unfold sO; rw [if_pos e1, if_pos e0]
 have e3 : oL b x (cv a) = kC := by unfold oL; rw [if_pos e1, if_pos e0]
 have hat := fun v w h => pH b hg.ok x h0 h1 (cv a) v w h
 rw [e2, e3] at hat
 have hnl : kC.slots.length = 64 := rfl
 obtain ⟨nb, hnb⟩ : ∃ nb, nb = kC := ⟨_, rfl⟩
 rw [← hnb] at hat hnl
 have HNL := ak hnl
 have HAT := ak hat
 have HNB := ak hnb
 have HMY := ak (fun w => sw a fE gh w)
 have HIN := ak (fun w h => vZ b M As Ap Am cs cp cm w h x h0 h1)
 have HOF := ak (fun w h => rK b hl hg.ok.s8 (fun s hs => (hg.s0 s hs).2) M As Ap Am cs cp cm w h x h0 h1)
 rw [hma] at HMY
 rw [decide_eq_true hin] at HIN
 rw [hh] at HOF
 clear hma hin hh e0 hl hM hf ha hs hp hm hg e1 e2 e3 hat hnl hnb hbase
 go_enter Try.func83, Try.ntmps83
 go_wp2_with (first
  | (refine aV rfl 57 (.tmp 0) rfl _ rfl ?_; intro gX W1 J aa I; have cw := ge an J; have aA := ak (an.out.trans (I.mono an.out.size)); have bJ := mv I bU; have ea := mv I eT; have bC := mv I bl; have ee := mv I eR; have b7 := mv I cb; have au := ak (aa); clear J aa I an bU eT bl eR cb)
  | (refine aV rfl 62 (.tmp 1) rfl _ rfl ?_; intro gY W2 J aa I; have jT := ge aA J; have gC := ne au J; have aK := mv I aA; have ch := mv I bJ; have er := mv I ea; have b4 := mv I bC; have ej := mv I ee; have dm := mv I b7; have aI := mv I au; have dk := ak (aa); clear J aa I aA bJ ea bC ee b7 au)
  | (refine aV rfl 76 (.tmp 3) rfl _ rfl ?_; intro gA W3 J aa I; have lI := ge aK J; have fq := ne aI J; have zd := ne dk J; have aT := mv I aK; have cW := mv I ch; have eG := mv I er; have cH := mv I b4; have eN := mv I ej; have dT := ak (Kd.R_mono (ok' := fun k_ => True) (Kd.R_below dm.out I) (fun _ _ => trivial)); have aQ := mv I aI; have dj := mv I dk; have eg := ak (aa); clear J aa I aK ch er b4 ej dm aI dk)
  | (refine aH (some 8) rfl rfl 57 rfl bu b6 ?_; intro gZ W4 J aa I; have ct := ge aT J; have aU := ne aQ J; have gS := ne dj J; have ij := ne eg J; have bq := mv I aT; have cU := mv I cW; have eo := mv I eG; have dC := mv I cH; have fg := mv I eN; have dZ := mv I dT; have bg := mv I aQ; have di := mv I dj; have eD := mv I eg; have bB := ak (aa); clear J aa I aT cW eG cH eN dT aQ dj eg)
  | (refine aH (some 9) rfl rfl 62 rfl dW (fun _ => by kernel_rfl) ?_; intro gU W5 J aa I; have fR := ge bq J; have ig := ne bg J; have dO := ne di J; have ze := ne eD J; have iA := ne bB J; have bE := mv I bq; have cQ := mv I cU; have dJ := mv I eo; have dG := mv I dC; have eV := mv I fg; have dw := mv I dZ; have bz := mv I bg; have dY := mv I di; have fB := mv I eD; have bY := mv I bB; have ff := ak (aa); clear J aa I bq cU eo dC fg dZ bg di eD bB))
 have aq : Below W5.heap.size W5 W5.drew := bL (Below.refl _ _)
 have bZ := mv aq bE; have dD := mv aq cQ; have ef := mv aq dJ; have dN := mv aq dG; have eU := mv aq eV; have ez := mv aq dw; have bH := mv aq bz; have du := mv aq dY; have gi := mv aq fB; have cn := mv aq bY; have dI := mv aq ff
 clear aq bE cQ dJ dG eV dw bz dY fB bY ff
 have hB := bZ
 have hF := dD
 have hG := ef
 have hS := dN
 have hP := eU
 have hM := ez
 have hX := bH
 have hY := du
 have hA := gi
 have hZ := cn
 have hU := dI
 clear bZ dD ef dN eU ez bH du gi cn dI
 refine dR (n := 11) (S := fun w' => aX w' gX (bk b.addr b.aff b.slots (.slice Af b.free.length cf) (.slice Aa b.attrs.length ca)) 57 ∧ aX w' gA [.string a.f0, .string a.f1] 76) (ds := []) #[false, false, false, false, false, false, false, false, false, false, false] (by kernel_rfl) rfl rfl ⟨hX.out, hA.out⟩ (fun hHeld => ?_); refine b5 pn.tab1 pn.bits1 (fun ag bM => ?_)
 refine tk 0 ag.out bM.out hHeld ?_ (hv := by exact fun _ bj => aY 57 (.tmp 4) rfl gX rfl _ _ _ bj.1 Try.underlying57 rfl HLB.out)
 refine pu 1 ag.out ?_
 refine tk 2 ag.out bM.out hHeld ?_ (hv := by exact fun _ bj => aY 76 (.tmp 7) rfl gA rfl _ _ _ bj.2 Try.underlying76 rfl (by kernel_rfl))
 refine ru (σ := Nat × Value) 2 #[true, true, true, true, true, true, true, true, true, false, false] (fun s => [(19, fv (cv a)), (20, .tuple #[s.2, .int .i64 11]), (15, .tuple #[s.2, .int .i64 11]), (21, s.2), (22, .int .i64 11), (11, .pointer (some ⟨s.1, 0, none⟩))]) (fun s w' => Aside0 (Below w.heap.size w w') ∧ Aside0 (Kd.R (Kd.int .u8) 5 w' base (fun _ => True) (.slice Af b.free.length cf) b.free) ∧ Aside0 (Kd.R lf 85 w' base (fun _ => True) (.slice Aa b.attrs.length ca) b.attrs) ∧ Aside0 (Kd.R (Kd.int .i64) 3 w' base (fun _ => True) (.slice As b.slots.length cs) b.slots) ∧ Aside0 (Kd.R (Kd.int .i64) 3 w' base (fun _ => True) (.slice Ap b.free.length cp) b.free) ∧ Aside0 (Kd.R ia 76 w' base (fun _ => True) (.slice Am M.length cm) M) ∧ Aside0 (aX w' gX (bk b.addr b.aff b.slots (.slice Af b.free.length cf) (.slice Aa b.attrs.length ca)) 57) ∧ Aside0 (aX w' gY (dH b.addr b.aff (.slice As b.slots.length cs) (.slice Ap b.free.length cp) (.slice Am M.length cm)) 62) ∧ Aside0 (aX w' gA [.string a.f0, .string a.f1] 76) ∧ Aside0 (aX w' gZ bu 57) ∧ Aside0 (aX w' gU dW 62) ∧ Aside0 (aX w' s.1 bu 57) ∧ Aside0 (w.heap.size ≤ s.1) ∧ Aside0 (gX ≠ s.1) ∧ Aside0 (gZ ≠ s.1) ∧ Aside0 (eP w' base s.2 nb)) ?_ ?_
 rotate_left
 ·intro fe
  refine tw 3 8 ag.out (fun K hK => ?_) (fun K hK => ?_)
  ·skip
   refine gs Try.func50 #[.agg #[.string a.f0, .string a.f1]] (lF a _) ?_
   rintro e V3 ⟨rfl, I⟩
   refine ⟨_, rfl, ?_⟩
   (try replace hV := mv I hV); (try replace hQ := mv I hQ); replace hB := mv I hB; replace hF := mv I hF; replace hG := mv I hG; replace hS := mv I hS; replace hP := mv I hP; replace hM := mv I hM; replace hX := mv I hX; replace hY := mv I hY; replace hA := mv I hA; replace hZ := mv I hZ; replace hU := mv I hU; clear  I
   refine kn hK ⟨hX.out, hA.out⟩ (fun hHeld => ?_)
   clear hK K
   refine tw 4 8 ag.out (fun K hK => ?_) (fun K hK => ?_)
   ·skip
    refine gs Try.func51 #[.agg (bk b.addr b.aff b.slots (.slice Af b.free.length cf) (.slice Aa b.attrs.length ca)).toArray, .int .u32 x, fv (cv a)] (HAT.out _ _ ⟨_, _, _, _, rfl, ⟨HL.out, (rr hF).1, (rr hF).2, (rr hG).1, (rr hG).2⟩⟩) ?_
    rintro e V4 ⟨v_, rfl, bc, I⟩
    refine ⟨_, rfl, ?_⟩
    have hV := ak (bc.lower (lb HBASE hB)); (try replace hQ := mv I hQ); replace hB := mv I hB; replace hF := mv I hF; replace hG := mv I hG; replace hS := mv I hS; replace hP := mv I hP; replace hM := mv I hM; replace hX := mv I hX; replace hY := mv I hY; replace hA := mv I hA; replace hZ := mv I hZ; replace hU := mv I hU; clear bc I
    refine kn hK ⟨hX.out, hA.out⟩ (fun hHeld => ?_)
    clear hK K
    refine pu 5 ag.out ?_
    refine pu 6 ag.out ?_
    refine pu 7 ag.out ?_
    refine on 8 ag.out (fun K hK => ?_)
    refine eJ (by rfl) 57 rfl bu b6 ?_
    intro gQ V8 J aa I
    have dr := ge hB J
    have bI := ne hX J
    have bs := ne hZ J
    (try replace hV := mv I hV)
    replace hB := mv I hB
    replace hF := mv I hF
    replace hG := mv I hG
    replace hS := mv I hS
    replace hP := mv I hP
    replace hM := mv I hM
    replace hX := mv I hX
    replace hY := mv I hY
    replace hA := mv I hA
    replace hZ := mv I hZ
    replace hU := mv I hU
    have hQ := ak aa
    clear J aa I
    refine kn hK ⟨hX.out, hA.out⟩ (fun hHeld => ?_)
    clear hK K
    exact nc (fe ⟨gQ, v_⟩ _ ⟨hB, hF, hG, hS, hP, hM, hX, hY, hA, hZ, hU, hQ, dr, bI, bs, hV⟩)
   ·skip
    refine eJ (by rfl) 57 rfl bu b6 ?_
    intro gQ V8 J aa I
    have dr := ge hB J
    have bI := ne hX J
    have bs := ne hZ J
    (try replace hV := mv I hV)
    replace hB := mv I hB
    replace hF := mv I hF
    replace hG := mv I hG
    replace hS := mv I hS
    replace hP := mv I hP
    replace hM := mv I hM
    replace hX := mv I hX
    replace hY := mv I hY
    replace hA := mv I hA
    replace hZ := mv I hZ
    replace hU := mv I hU
    have hQ := ak aa
    clear J aa I
    refine kn hK ⟨hX.out, hA.out⟩ (fun hHeld => ?_)
    clear hK K
    refine on 4 ag.out (fun K hK => ?_)
    refine gs Try.func51 #[.agg (bk b.addr b.aff b.slots (.slice Af b.free.length cf) (.slice Aa b.attrs.length ca)).toArray, .int .u32 x, fv (cv a)] (HAT.out _ _ ⟨_, _, _, _, rfl, ⟨HL.out, (rr hF).1, (rr hF).2, (rr hG).1, (rr hG).2⟩⟩) ?_
    rintro e V4 ⟨v_, rfl, bc, I⟩
    refine ⟨_, rfl, ?_⟩
    have hV := ak (bc.lower (lb HBASE hB)); (try replace hQ := mv I hQ); replace hB := mv I hB; replace hF := mv I hF; replace hG := mv I hG; replace hS := mv I hS; replace hP := mv I hP; replace hM := mv I hM; replace hX := mv I hX; replace hY := mv I hY; replace hA := mv I hA; replace hZ := mv I hZ; replace hU := mv I hU; clear bc I
    refine kn hK ⟨hX.out, hA.out⟩ (fun hHeld => ?_)
    clear hK K
    refine pu 5 ag.out ?_
    refine pu 6 ag.out ?_
    refine pu 7 ag.out ?_
    exact nc (fe ⟨gQ, v_⟩ _ ⟨hB, hF, hG, hS, hP, hM, hX, hY, hA, hZ, hU, hQ, dr, bI, bs, hV⟩)
  ·skip
   refine eJ (by rfl) 57 rfl bu b6 ?_
   intro gQ V8 J aa I
   have dr := ge hB J
   have bI := ne hX J
   have bs := ne hZ J
   (try replace hV := mv I hV)
   replace hB := mv I hB
   replace hF := mv I hF
   replace hG := mv I hG
   replace hS := mv I hS
   replace hP := mv I hP
   replace hM := mv I hM
   replace hX := mv I hX
   replace hY := mv I hY
   replace hA := mv I hA
   replace hZ := mv I hZ
   replace hU := mv I hU
   have hQ := ak aa
   clear J aa I
   refine kn hK ⟨hX.out, hA.out⟩ (fun hHeld => ?_)
   clear hK K
   refine on 3 ag.out (fun K hK => ?_)
   refine gs Try.func50 #[.agg #[.string a.f0, .string a.f1]] (lF a _) ?_
   rintro e V3 ⟨rfl, I⟩
   refine ⟨_, rfl, ?_⟩
   (try replace hV := mv I hV); (try replace hQ := mv I hQ); replace hB := mv I hB; replace hF := mv I hF; replace hG := mv I hG; replace hS := mv I hS; replace hP := mv I hP; replace hM := mv I hM; replace hX := mv I hX; replace hY := mv I hY; replace hA := mv I hA; replace hZ := mv I hZ; replace hU := mv I hU; clear  I
   refine kn hK ⟨hX.out, hA.out⟩ (fun hHeld => ?_)
   clear hK K
   refine on 4 ag.out (fun K hK => ?_)
   refine gs Try.func51 #[.agg (bk b.addr b.aff b.slots (.slice Af b.free.length cf) (.slice Aa b.attrs.length ca)).toArray, .int .u32 x, fv (cv a)] (HAT.out _ _ ⟨_, _, _, _, rfl, ⟨HL.out, (rr hF).1, (rr hF).2, (rr hG).1, (rr hG).2⟩⟩) ?_
   rintro e V4 ⟨v_, rfl, bc, I⟩
   refine ⟨_, rfl, ?_⟩
   have hV := ak (bc.lower (lb HBASE hB)); (try replace hQ := mv I hQ); replace hB := mv I hB; replace hF := mv I hF; replace hG := mv I hG; replace hS := mv I hS; replace hP := mv I hP; replace hM := mv I hM; replace hX := mv I hX; replace hY := mv I hY; replace hA := mv I hA; replace hZ := mv I hZ; replace hU := mv I hU; clear bc I
   refine kn hK ⟨hX.out, hA.out⟩ (fun hHeld => ?_)
   clear hK K
   refine pu 5 ag.out ?_
   refine pu 6 ag.out ?_
   refine pu 7 ag.out ?_
   exact nc (fe ⟨gQ, v_⟩ _ ⟨hB, hF, hG, hS, hP, hM, hX, hY, hA, hZ, hU, hQ, dr, bI, bs, hV⟩)
 intro s w' hFF; obtain ⟨gQ, v_⟩ := s; simp only at hFF; obtain ⟨hB, hF, hG, hS, hP, hM, hX, hY, hA, hZ, hU, hQ, dr, bI, bs, hV⟩ := hFF; have bc := hV.out; obtain ⟨iZ, p6, p7, rfl, dM, ew⟩ := bc; obtain ⟨A8, c8, rfl⟩ := Kd.R_slice dM; obtain ⟨A9, c9, rfl⟩ := Kd.R_slice ew; have hC := ak dM; have hD := ak ew; clear hV iZ dM ew
 refine nj ?_
 refine ow 9 ag.out (fun K hK => ?_)
 refine bS (by rfl) rfl 57 (.tmp 11) (.tmp 21) rfl gQ (bk nb.addr nb.aff nb.slots (.slice A8 nb.free.length c8) (.slice A9 nb.attrs.length c9)) rfl rfl 57 _ hQ.out 68 (by kernel_rfl) (ao _ _ _ _ _ HNL.out) rfl (cA _ _ _ _ _ rfl rfl) ?_
 intro V9 aa J; replace hB := gb hB dr J; replace hF := gr hF hQ J; replace hG := gr hG hQ J; replace hS := gr hS hQ J; replace hP := gr hP hQ J; replace hM := gr hM hQ J; replace hX := gn hX bI J; replace hY := gx hY hQ J; replace hA := gx hA hQ J; replace hZ := gn hZ bs J; replace hU := gx hU hQ J; replace hC := gr hC hQ J; replace hD := gr hD hQ J; replace hQ := ak (aa); clear aa J
 refine hK.out _ _ ⟨hX.out, hA.out⟩ (fun hHeld => ?_)
 clear hK K
 refine pu 10 ag.out ?_
 refine dn ag.out ?_
 clear hHeld
 have HLN := ak (dc (bk nb.addr nb.aff nb.slots (.slice A8 nb.free.length c8) (.slice A9 nb.attrs.length c9)) (ao _ _ _ _ _ HNL.out))
 have HZR := ak (fun v w h => oH v w (by rw [← HNB.out]; exact h))
 go_wp2_with (first
  | ((with_reducible refine aJ (N := 23) rfl ?_); refine aN rfl 76 (.tmp 7) rfl gA rfl _ _ _ hA.out Try.underlying76 rfl 2 (by kernel_rfl) rfl ?_)
  | (go_at_call 60; refine (HMY.out _).mono ?_; rintro e sQ ⟨rfl, I⟩; have jB := mv I hB; have kg := mv I hF; have ke := mv I hG; have iV := mv I hS; have iW := mv I hP; have iX := mv I hM; have j8 := mv I hX; have iU := mv I hY; have p5 := mv I hA; have j7 := mv I hZ; have j9 := mv I hU; have kb := mv I hQ; have kl := mv I hC; have kj := mv I hD; clear I hB hF hG hS hP hM hX hY hA hZ hU hQ hC hD)
  | ((with_reducible refine aJ (N := 27) rfl ?_); refine fk (by rfl) ?_; refine aN rfl 62 (.tmp 5) rfl gY rfl _ _ _ iU.out Try.underlying62 rfl 5 (by kernel_rfl) rfl ?_)
  | (go_at_call 100; refine (HIN.out _ (jL.of HM.out iV.out iW.out iX.out)).mono ?_; rintro e Gw ⟨rfl, I⟩; have jS := mv I jB; have kf := mv I kg; have kc := mv I ke; have jy := mv I iV; have jz := mv I iW; have jA := mv I iX; have jO := mv I j8; have jg := mv I iU; have pZ := mv I p5; have jN := mv I j7; have jQ := mv I j9; have jR := mv I kb; have kk := mv I kl; have ki := mv I kj; clear I jB kg ke iV iW iX j8 iU p5 j7 j9 kb kl kj)
  | ((with_reducible refine aJ (N := 41) rfl ?_); refine aN rfl 62 (.tmp 5) rfl gY rfl _ _ _ jg.out Try.underlying62 rfl 5 (by kernel_rfl) rfl ?_)
  | (go_at_call 62; refine (HOF.out _ (jL.of HM.out jy.out jz.out jA.out)).mono ?_; rintro e TT ⟨rfl, I⟩; have nX := mv I jS; have pU := mv I kf; have pT := mv I kc; have pO := mv I jy; have pR := mv I jz; have pS := mv I jA; have nT := mv I jO; have nS := mv I jg; have qD := mv I pZ; have nR := mv I jN; have nV := mv I jQ; have nW := mv I jR; have pY := mv I kk; have pW := mv I ki; clear I jS kf kc jy jz jA jO jg pZ jN jQ jR kk ki)
  | (refine aH (some 13) rfl rfl 76 rfl [.string ⟨#[]⟩, .string ⟨#[]⟩] (fun _ => by kernel_rfl) ?_; intro gV JF J aa I; have dQ := ge nX J; have fL := ne nT J; have fp := ne nS J; have mg := ne qD J; have kU := ne nR J; have eO := ne nV J; have wk := ne nW J; have uo := mv I nX; have ud := mv I pU; have ua := mv I pT; have tK := mv I pO; have tP := mv I pR; have tU := ak (Kd.R_mono (ok' := fun k_ => k_ ≠ gV) (Kd.R_below (Kd.R_bound pS.out) I) (fun k_ dS e_ => by have h_ := dS.2.2.1; omega)); have tF := mv I nT; have tB := mv I nS; have BA := mv I qD; have tv := mv I nR; have tI := mv I nV; have tN := mv I nW; have uj := mv I pY; have ug := mv I pW; have gK := ak (aa); clear J aa I nX pU pT pO pR pS nT nS qD nR nV nW pY pW)
  | (refine a7 rfl 76 (.tmp 13) (.tmp 44) rfl gV [.string (ov b x).f0, .string (ov b x).f1] rfl rfl 76 _ gK.out 2 (by kernel_rfl) rfl rfl (j6 (ov b x)) ?_; intro E2 aa J; have um := gb uo dQ J; have uc := gr ud gK J; have tZ := gr ua gK J; have tJ := gr tK gK J; have tO := gr tP gK J; have tT := ak (Kd.R_mono (ok' := fun _ => True) (Kd.R_grown tU.out J (fun k_ dS e_ => dS (Option.some.inj e_))) (fun _ _ => trivial)); have tE := gx tF gK J; have tA := gx tB gK J; have Bz := gn BA mg J; have tu := gx tv gK J; have tH := gx tI gK J; have tM := gx tN gK J; have ui := gr uj gK J; have uf := gr ug gK J; have Da := ak (aa); clear aa J uo ud ua tK tP tU tF tB BA tv tI tN uj ug gK))
 have aq : Below E2.heap.size E2 E2.drew := bL (Below.refl _ _)
 have Bu := mv aq um; have AZ := mv aq uc; have AR := mv aq tZ; have Ac := mv aq tJ; have Ar := mv aq tO; have Az := mv aq tT; have z2 := mv aq tE; have zW := mv aq tA; have By := mv aq Bz; have zT := mv aq tu; have z5 := mv aq tH; have Ah := mv aq tM; have Bp := mv aq ui; have Bl := mv aq uf
 clear aq um uc tZ tJ tO tT tE tA Bz tu tH tM ui uf
 have hB := Bu
 have hF := AZ
 have hG := AR
 have hS := Ac
 have hP := Ar
 have hM := Az
 have hX := z2
 have hY := zW
 have hA := By
 have hZ := zT
 have hU := z5
 have hQ := Ah
 have hC := Bp
 have hD := Bl
 clear Bu AZ AR Ac Ar Az z2 zW By zT z5 Ah Bp Bl
 refine dR (n := 11) (S := fun w' => aX w' gX (bk b.addr b.aff b.slots (.slice Af b.free.length cf) (.slice Aa b.attrs.length ca)) 57 ∧ aX w' gY (dH b.addr b.aff (.slice As b.slots.length cs) (.slice Ap b.free.length cp) (.slice Am M.length cm)) 62 ∧ aX w' gQ (bk nb.addr nb.aff nb.slots (.slice A8 nb.free.length c8) (.slice A9 nb.attrs.length c9)) 57) (ds := []) #[false, false, false, false, false, false, false, false, false, false, false] (by kernel_rfl) rfl rfl ⟨hX.out, hY.out, hQ.out⟩ (fun hHeld => ?_); refine b5 xm.tab6 xm.bits6 (fun ag bM => ?_)
 refine tk 0 ag.out bM.out hHeld ?_ (hv := by exact fun _ bj => aY 57 (.tmp 4) rfl gX rfl _ _ _ bj.1 Try.underlying57 rfl HLB.out)
 refine tk 1 ag.out bM.out hHeld ?_ (hv := by exact fun _ bj => aY 62 (.tmp 5) rfl gY rfl _ _ _ bj.2.1 Try.underlying62 rfl (by kernel_rfl))
 refine pu 2 ag.out ?_
 refine pu 3 ag.out ?_
 refine pu 4 ag.out ?_
 refine tk 5 ag.out bM.out hHeld ?_ (hv := by exact fun _ bj => aY 57 (.tmp 11) rfl gQ rfl _ _ _ bj.2.2 Try.underlying57 rfl HLN.out)
 refine on 6 ag.out (fun K hK => ?_)
 refine gs Try.func43 #[.agg (bk nb.addr nb.aff nb.slots (.slice A8 nb.free.length c8) (.slice A9 nb.attrs.length c9)).toArray] (HZR.out _ _ ⟨_, _, _, _, rfl, ⟨HNL.out, (rr hC).1, (rr hC).2, (rr hD).1, (rr hD).2⟩⟩) ?_
 rintro e V6 ⟨rfl, I⟩
 refine ⟨_, rfl, ?_⟩
 replace hB := mv I hB; replace hF := mv I hF; replace hG := mv I hG; replace hS := mv I hS; replace hP := mv I hP; replace hM := mv I hM; replace hX := mv I hX; replace hY := mv I hY; replace hA := mv I hA; replace hZ := mv I hZ; replace hU := mv I hU; replace hQ := mv I hQ; replace hC := mv I hC; replace hD := mv I hD
 refine kn hK ⟨hX.out, hY.out, hQ.out⟩ (fun hHeld => ?_)
 clear hK K
 refine pu 7 ag.out ?_
 refine ow 8 ag.out (fun K hK => ?_)
 refine bS (by rfl) rfl 57 (.tmp 8) (.tmp 47) rfl gZ (bk b.addr b.aff b.slots (.slice Af b.free.length cf) (.slice Aa b.attrs.length ca)) rfl rfl 57 _ hZ.out 68 (by kernel_rfl) (ao _ _ _ _ _ HL.out) rfl (cA _ _ _ _ _ rfl rfl) ?_
 intro V8 aa J; replace hB := gb hB ct J; replace hF := gr hF hZ J; replace hG := gr hG hZ J; replace hS := gr hS hZ J; replace hP := gr hP hZ J; replace hM := gr hM hZ J; replace hX := gn hX aU J; replace hY := gx hY hZ J; replace hA := gx hA hZ J; replace hU := gx hU hZ J; replace hQ := gm hQ bs J; replace hC := gr hC hZ J; replace hD := gr hD hZ J; replace hZ := ak (aa); clear aa J
 refine hK.out _ _ ⟨hX.out, hY.out, hQ.out⟩ (fun hHeld => ?_)
 clear hK K
 refine ow 9 ag.out (fun K hK => ?_)
 refine bS (by rfl) rfl 62 (.tmp 9) (.tmp 48) rfl gU (dH b.addr b.aff (.slice As b.slots.length cs) (.slice Ap b.free.length cp) (.slice Am M.length cm)) rfl rfl 62 _ hU.out 5 (by kernel_rfl) rfl rfl (et _ _ rfl rfl rfl) ?_
 intro V9 aa J; replace hB := gb hB fR J; replace hF := gr hF hU J; replace hG := gr hG hU J; replace hS := gr hS hU J; replace hP := gr hP hU J; replace hM := gr hM hU J; replace hX := gx hX hU J; replace hY := gn hY dO J; replace hA := gx hA hU J; replace hZ := gx hZ hU J; replace hQ := gx hQ hU J; replace hC := gr hC hU J; replace hD := gr hD hU J; replace hU := ak (aa); clear aa J
 refine hK.out _ _ ⟨hX.out, hY.out, hQ.out⟩ (fun hHeld => ?_)
 clear hK K
 refine pu 10 ag.out ?_
 refine dn ag.out ?_
 clear hHeld
 go_wp2_with fail
 refine bodyPost_ret (fD rfl _ _ _ gZ gU 57 62 _ _ _ _ rfl hZ.out rfl Try.underlying57 (by first | exact HLB.out | exact HLN.out) rfl hU.out rfl Try.underlying62 (by kernel_rfl)) rfl ⟨_, _, b, rfl, ?_, ?_, ?_, hB.out⟩
 ·exact HG.out
 ·exact ⟨HL.out, _, _, rfl, hF.out, hG.out⟩
 ·exact ⟨_, _, _, rfl, hS.out, hP.out, by rw [← HM.out]; exact hM.out⟩
set_option maxHeartbeats 16000000 in
set_option maxRecDepth 100000 in
theorem FC (b : Bk) (hg : RG b) (x : Int) (h0 : 0 ≤ x) (h1 : x < 4294967296) (a : lN) (fE : a.f0.size ≤ 9223372036854775807) (gh : a.f1.size ≤ 9223372036854775807) (hma : fj (cv a) = true) (hin : cC x = b.addr) (hh : ku b x = false) (v v2 : Value) (w : World) (base : Nat) (hbase : base ≤ w.heap.size) (hO : eP w base v b) (hR : fw w base v2 b) :
  Calls Try.prog 83 #[v, v2, .int .u32 x, .agg #[.string a.f0, .string a.f1]] w fun e w' => ∃ v1 v2 b', e = .returned (.tuple #[v1, v2, .bool true]) ∧ RG b' ∧ eP w' base v1 b' ∧ fw w' base v2 b' ∧ Below w.heap.size w w' := by
 obtain ⟨hl, vf, va, rfl, hf, ha⟩ := hO
 obtain ⟨vs, vp, vm, rfl, hs, hp, hm⟩ := hR
 obtain ⟨Af, cf, rfl⟩ := Kd.R_slice hf
 obtain ⟨Aa, ca, rfl⟩ := Kd.R_slice ha
 obtain ⟨As, cs, rfl⟩ := Kd.R_slice hs
 obtain ⟨Ap, cp, rfl⟩ := Kd.R_slice hp
 obtain ⟨M, hM⟩ : ∃ M, M = b.attrs.map vc := ⟨_, rfl⟩
 rw [← hM] at hm
 obtain ⟨Am, cm, rfl⟩ := Kd.R_slice hm
 have HL := ak hl
 have HM := ak hM
 have bU := ak hf
 have eT := ak ha
 have bl := ak hs
 have eR := ak hp
 have cb := ak hm
 have HG := ak hg
 have an := ak (Below.refl w.heap.size w)
 have HBASE := ak hbase
 have HLB := ak (dc (bk b.addr b.aff b.slots (.slice Af b.free.length cf) (.slice Aa b.attrs.length ca)) (ao _ _ _ _ _ HL.out))
 have e0 : qk b x = false := by unfold ku at hh; rw [decide_eq_true hin, Bool.true_and] at hh; exact hh
 have e1 : q8 b x (cv a) = true := by unfold q8; rw [hg.right, hma, decide_eq_true hin]; rfl
 have e2 : sO b x (cv a) = 0 := by unfold sO; rw [if_pos e1, if_neg (by rw [e0]; decide)]
 have e3 : oL b x (cv a) = gE b (x % 64).toNat (cv a) := by
  unfold oL
  rw [if_pos e1, if_neg (by rw [e0]; decide)]
  have : x - b.addr = x % 64 := by unfold cC at hin; omega
  rw [this]
 have hrg := hg.give (x % 64).toNat (by omega) (by
  unfold qk at e0
  have : x - b.addr = x % 64 := by unfold cC at hin; omega
  rw [this] at e0
  simpa using e0) (cv a) hma
 have hat := fun v w h => pH b hg.ok x h0 h1 (cv a) v w h
 rw [e2, e3] at hat
 have hnl : (gE b (x % 64).toNat (cv a)).slots.length = 64 := hrg.l64
 have hra := fun v w h => CP b HL.out (by have := hg.sum; omega) (by have := hg.na; omega) ((DM _).2 hg.nd) x h0 h1 (cv a) v w h
 obtain ⟨nb, hnb⟩ : ∃ nb, nb = gE b (x % 64).toNat (cv a) := ⟨_, rfl⟩
 rw [← hnb] at hat hnl hra hrg
 have HRA := ak hra
 have HRG := ak hrg
 have HNL := ak hnl
 have HAT := ak hat
 have HNB := ak hnb
 have HMY := ak (fun w => sw a fE gh w)
 have HIN := ak (fun w h => vZ b M As Ap Am cs cp cm w h x h0 h1)
 have HOF := ak (fun w h => rK b hl hg.ok.s8 (fun s hs => (hg.s0 s hs).2) M As Ap Am cs cp cm w h x h0 h1)
 rw [hma] at HMY
 rw [decide_eq_true hin] at HIN
 rw [hh] at HOF
 clear hma hin hh e0 hl hM hf ha hs hp hm hg e1 e2 e3 hat hnl hnb hbase hra hrg
 go_enter Try.func83, Try.ntmps83
 go_wp2_with (first
  | (refine aV rfl 57 (.tmp 0) rfl _ rfl ?_; intro gX W1 J aa I; have cw := ge an J; have aA := ak (an.out.trans (I.mono an.out.size)); have bJ := mv I bU; have ea := mv I eT; have bC := mv I bl; have ee := mv I eR; have b7 := mv I cb; have au := ak (aa); clear J aa I an bU eT bl eR cb)
  | (refine aV rfl 62 (.tmp 1) rfl _ rfl ?_; intro gY W2 J aa I; have jT := ge aA J; have gC := ne au J; have aK := mv I aA; have ch := mv I bJ; have er := mv I ea; have b4 := mv I bC; have ej := mv I ee; have dm := mv I b7; have aI := mv I au; have dk := ak (aa); clear J aa I aA bJ ea bC ee b7 au)
  | (refine aV rfl 76 (.tmp 3) rfl _ rfl ?_; intro gA W3 J aa I; have lI := ge aK J; have fq := ne aI J; have zd := ne dk J; have aT := mv I aK; have cW := mv I ch; have eG := mv I er; have cH := mv I b4; have eN := mv I ej; have dT := ak (Kd.R_mono (ok' := fun k_ => True) (Kd.R_below dm.out I) (fun _ _ => trivial)); have aQ := mv I aI; have dj := mv I dk; have eg := ak (aa); clear J aa I aK ch er b4 ej dm aI dk)
  | (refine aH (some 8) rfl rfl 57 rfl bu b6 ?_; intro gZ W4 J aa I; have ct := ge aT J; have aU := ne aQ J; have gS := ne dj J; have ij := ne eg J; have bq := mv I aT; have cU := mv I cW; have eo := mv I eG; have dC := mv I cH; have fg := mv I eN; have dZ := mv I dT; have bg := mv I aQ; have di := mv I dj; have eD := mv I eg; have bB := ak (aa); clear J aa I aT cW eG cH eN dT aQ dj eg)
  | (refine aH (some 9) rfl rfl 62 rfl dW (fun _ => by kernel_rfl) ?_; intro gU W5 J aa I; have fR := ge bq J; have ig := ne bg J; have dO := ne di J; have ze := ne eD J; have iA := ne bB J; have bE := mv I bq; have cQ := mv I cU; have dJ := mv I eo; have dG := mv I dC; have eV := mv I fg; have dw := mv I dZ; have bz := mv I bg; have dY := mv I di; have fB := mv I eD; have bY := mv I bB; have ff := ak (aa); clear J aa I bq cU eo dC fg dZ bg di eD bB))
 have aq : Below W5.heap.size W5 W5.drew := bL (Below.refl _ _)
 have bZ := mv aq bE; have dD := mv aq cQ; have ef := mv aq dJ; have dN := mv aq dG; have eU := mv aq eV; have ez := mv aq dw; have bH := mv aq bz; have du := mv aq dY; have gi := mv aq fB; have cn := mv aq bY; have dI := mv aq ff
 clear aq bE cQ dJ dG eV dw bz dY fB bY ff
 have hB := bZ
 have hF := dD
 have hG := ef
 have hS := dN
 have hP := eU
 have hM := ez
 have hX := bH
 have hY := du
 have hA := gi
 have hZ := cn
 have hU := dI
 clear bZ dD ef dN eU ez bH du gi cn dI
 refine dR (n := 11) (S := fun w' => aX w' gX (bk b.addr b.aff b.slots (.slice Af b.free.length cf) (.slice Aa b.attrs.length ca)) 57 ∧ aX w' gA [.string a.f0, .string a.f1] 76) (ds := []) #[false, false, false, false, false, false, false, false, false, false, false] (by kernel_rfl) rfl rfl ⟨hX.out, hA.out⟩ (fun hHeld => ?_); refine b5 pn.tab1 pn.bits1 (fun ag bM => ?_)
 refine tk 0 ag.out bM.out hHeld ?_ (hv := by exact fun _ bj => aY 57 (.tmp 4) rfl gX rfl _ _ _ bj.1 Try.underlying57 rfl HLB.out)
 refine pu 1 ag.out ?_
 refine tk 2 ag.out bM.out hHeld ?_ (hv := by exact fun _ bj => aY 76 (.tmp 7) rfl gA rfl _ _ _ bj.2 Try.underlying76 rfl (by kernel_rfl))
 refine ru (σ := Nat × Value) 2 #[true, true, true, true, true, true, true, true, true, false, false] (fun s => [(19, fv (cv a)), (20, .tuple #[s.2, .int .i64 0]), (15, .tuple #[s.2, .int .i64 0]), (21, s.2), (22, .int .i64 0), (11, .pointer (some ⟨s.1, 0, none⟩))]) (fun s w' => Aside0 (Below w.heap.size w w') ∧ Aside0 (Kd.R (Kd.int .u8) 5 w' base (fun _ => True) (.slice Af b.free.length cf) b.free) ∧ Aside0 (Kd.R lf 85 w' base (fun _ => True) (.slice Aa b.attrs.length ca) b.attrs) ∧ Aside0 (Kd.R (Kd.int .i64) 3 w' base (fun _ => True) (.slice As b.slots.length cs) b.slots) ∧ Aside0 (Kd.R (Kd.int .i64) 3 w' base (fun _ => True) (.slice Ap b.free.length cp) b.free) ∧ Aside0 (Kd.R ia 76 w' base (fun _ => True) (.slice Am M.length cm) M) ∧ Aside0 (aX w' gX (bk b.addr b.aff b.slots (.slice Af b.free.length cf) (.slice Aa b.attrs.length ca)) 57) ∧ Aside0 (aX w' gY (dH b.addr b.aff (.slice As b.slots.length cs) (.slice Ap b.free.length cp) (.slice Am M.length cm)) 62) ∧ Aside0 (aX w' gA [.string a.f0, .string a.f1] 76) ∧ Aside0 (aX w' gZ bu 57) ∧ Aside0 (aX w' gU dW 62) ∧ Aside0 (aX w' s.1 bu 57) ∧ Aside0 (w.heap.size ≤ s.1) ∧ Aside0 (gX ≠ s.1) ∧ Aside0 (gZ ≠ s.1) ∧ Aside0 (eP w' base s.2 nb)) ?_ ?_
 rotate_left
 ·intro fe
  refine tw 3 8 ag.out (fun K hK => ?_) (fun K hK => ?_)
  ·skip
   refine gs Try.func50 #[.agg #[.string a.f0, .string a.f1]] (lF a _) ?_
   rintro e V3 ⟨rfl, I⟩
   refine ⟨_, rfl, ?_⟩
   (try replace hV := mv I hV); (try replace hQ := mv I hQ); replace hB := mv I hB; replace hF := mv I hF; replace hG := mv I hG; replace hS := mv I hS; replace hP := mv I hP; replace hM := mv I hM; replace hX := mv I hX; replace hY := mv I hY; replace hA := mv I hA; replace hZ := mv I hZ; replace hU := mv I hU; clear  I
   refine kn hK ⟨hX.out, hA.out⟩ (fun hHeld => ?_)
   clear hK K
   refine tw 4 8 ag.out (fun K hK => ?_) (fun K hK => ?_)
   ·skip
    refine gs Try.func51 #[.agg (bk b.addr b.aff b.slots (.slice Af b.free.length cf) (.slice Aa b.attrs.length ca)).toArray, .int .u32 x, fv (cv a)] (HAT.out _ _ ⟨_, _, _, _, rfl, ⟨HL.out, (rr hF).1, (rr hF).2, (rr hG).1, (rr hG).2⟩⟩) ?_
    rintro e V4 ⟨v_, rfl, bc, I⟩
    refine ⟨_, rfl, ?_⟩
    have hV := ak (bc.lower (lb HBASE hB)); (try replace hQ := mv I hQ); replace hB := mv I hB; replace hF := mv I hF; replace hG := mv I hG; replace hS := mv I hS; replace hP := mv I hP; replace hM := mv I hM; replace hX := mv I hX; replace hY := mv I hY; replace hA := mv I hA; replace hZ := mv I hZ; replace hU := mv I hU; clear bc I
    refine kn hK ⟨hX.out, hA.out⟩ (fun hHeld => ?_)
    clear hK K
    refine pu 5 ag.out ?_
    refine pu 6 ag.out ?_
    refine pu 7 ag.out ?_
    refine on 8 ag.out (fun K hK => ?_)
    refine eJ (by rfl) 57 rfl bu b6 ?_
    intro gQ V8 J aa I
    have dr := ge hB J
    have bI := ne hX J
    have bs := ne hZ J
    (try replace hV := mv I hV)
    replace hB := mv I hB
    replace hF := mv I hF
    replace hG := mv I hG
    replace hS := mv I hS
    replace hP := mv I hP
    replace hM := mv I hM
    replace hX := mv I hX
    replace hY := mv I hY
    replace hA := mv I hA
    replace hZ := mv I hZ
    replace hU := mv I hU
    have hQ := ak aa
    clear J aa I
    refine kn hK ⟨hX.out, hA.out⟩ (fun hHeld => ?_)
    clear hK K
    exact nc (fe ⟨gQ, v_⟩ _ ⟨hB, hF, hG, hS, hP, hM, hX, hY, hA, hZ, hU, hQ, dr, bI, bs, hV⟩)
   ·skip
    refine eJ (by rfl) 57 rfl bu b6 ?_
    intro gQ V8 J aa I
    have dr := ge hB J
    have bI := ne hX J
    have bs := ne hZ J
    (try replace hV := mv I hV)
    replace hB := mv I hB
    replace hF := mv I hF
    replace hG := mv I hG
    replace hS := mv I hS
    replace hP := mv I hP
    replace hM := mv I hM
    replace hX := mv I hX
    replace hY := mv I hY
    replace hA := mv I hA
    replace hZ := mv I hZ
    replace hU := mv I hU
    have hQ := ak aa
    clear J aa I
    refine kn hK ⟨hX.out, hA.out⟩ (fun hHeld => ?_)
    clear hK K
    refine on 4 ag.out (fun K hK => ?_)
    refine gs Try.func51 #[.agg (bk b.addr b.aff b.slots (.slice Af b.free.length cf) (.slice Aa b.attrs.length ca)).toArray, .int .u32 x, fv (cv a)] (HAT.out _ _ ⟨_, _, _, _, rfl, ⟨HL.out, (rr hF).1, (rr hF).2, (rr hG).1, (rr hG).2⟩⟩) ?_
    rintro e V4 ⟨v_, rfl, bc, I⟩
    refine ⟨_, rfl, ?_⟩
    have hV := ak (bc.lower (lb HBASE hB)); (try replace hQ := mv I hQ); replace hB := mv I hB; replace hF := mv I hF; replace hG := mv I hG; replace hS := mv I hS; replace hP := mv I hP; replace hM := mv I hM; replace hX := mv I hX; replace hY := mv I hY; replace hA := mv I hA; replace hZ := mv I hZ; replace hU := mv I hU; clear bc I
    refine kn hK ⟨hX.out, hA.out⟩ (fun hHeld => ?_)
    clear hK K
    refine pu 5 ag.out ?_
    refine pu 6 ag.out ?_
    refine pu 7 ag.out ?_
    exact nc (fe ⟨gQ, v_⟩ _ ⟨hB, hF, hG, hS, hP, hM, hX, hY, hA, hZ, hU, hQ, dr, bI, bs, hV⟩)
  ·skip
   refine eJ (by rfl) 57 rfl bu b6 ?_
   intro gQ V8 J aa I
   have dr := ge hB J
   have bI := ne hX J
   have bs := ne hZ J
   (try replace hV := mv I hV)
   replace hB := mv I hB
   replace hF := mv I hF
   replace hG := mv I hG
   replace hS := mv I hS
   replace hP := mv I hP
   replace hM := mv I hM
   replace hX := mv I hX
   replace hY := mv I hY
   replace hA := mv I hA
   replace hZ := mv I hZ
   replace hU := mv I hU
   have hQ := ak aa
   clear J aa I
   refine kn hK ⟨hX.out, hA.out⟩ (fun hHeld => ?_)
   clear hK K
   refine on 3 ag.out (fun K hK => ?_)
   refine gs Try.func50 #[.agg #[.string a.f0, .string a.f1]] (lF a _) ?_
   rintro e V3 ⟨rfl, I⟩
   refine ⟨_, rfl, ?_⟩
   (try replace hV := mv I hV); (try replace hQ := mv I hQ); replace hB := mv I hB; replace hF := mv I hF; replace hG := mv I hG; replace hS := mv I hS; replace hP := mv I hP; replace hM := mv I hM; replace hX := mv I hX; replace hY := mv I hY; replace hA := mv I hA; replace hZ := mv I hZ; replace hU := mv I hU; clear  I
   refine kn hK ⟨hX.out, hA.out⟩ (fun hHeld => ?_)
   clear hK K
   refine on 4 ag.out (fun K hK => ?_)
   refine gs Try.func51 #[.agg (bk b.addr b.aff b.slots (.slice Af b.free.length cf) (.slice Aa b.attrs.length ca)).toArray, .int .u32 x, fv (cv a)] (HAT.out _ _ ⟨_, _, _, _, rfl, ⟨HL.out, (rr hF).1, (rr hF).2, (rr hG).1, (rr hG).2⟩⟩) ?_
   rintro e V4 ⟨v_, rfl, bc, I⟩
   refine ⟨_, rfl, ?_⟩
   have hV := ak (bc.lower (lb HBASE hB)); (try replace hQ := mv I hQ); replace hB := mv I hB; replace hF := mv I hF; replace hG := mv I hG; replace hS := mv I hS; replace hP := mv I hP; replace hM := mv I hM; replace hX := mv I hX; replace hY := mv I hY; replace hA := mv I hA; replace hZ := mv I hZ; replace hU := mv I hU; clear bc I
   refine kn hK ⟨hX.out, hA.out⟩ (fun hHeld => ?_)
   clear hK K
   refine pu 5 ag.out ?_
   refine pu 6 ag.out ?_
   refine pu 7 ag.out ?_
   exact nc (fe ⟨gQ, v_⟩ _ ⟨hB, hF, hG, hS, hP, hM, hX, hY, hA, hZ, hU, hQ, dr, bI, bs, hV⟩)
 intro s w' hFF; obtain ⟨gQ, v_⟩ := s; simp only at hFF; obtain ⟨hB, hF, hG, hS, hP, hM, hX, hY, hA, hZ, hU, hQ, dr, bI, bs, hV⟩ := hFF; have bc := hV.out; obtain ⟨iZ, p6, p7, rfl, dM, ew⟩ := bc; obtain ⟨A8, c8, rfl⟩ := Kd.R_slice dM; obtain ⟨A9, c9, rfl⟩ := Kd.R_slice ew; have hC := ak dM; have hD := ak ew; clear hV iZ dM ew
 refine nj ?_
 refine ow 9 ag.out (fun K hK => ?_)
 refine bS (by rfl) rfl 57 (.tmp 11) (.tmp 21) rfl gQ (bk nb.addr nb.aff nb.slots (.slice A8 nb.free.length c8) (.slice A9 nb.attrs.length c9)) rfl rfl 57 _ hQ.out 68 (by kernel_rfl) (ao _ _ _ _ _ HNL.out) rfl (cA _ _ _ _ _ rfl rfl) ?_
 intro V9 aa J; replace hB := gb hB dr J; replace hF := gr hF hQ J; replace hG := gr hG hQ J; replace hS := gr hS hQ J; replace hP := gr hP hQ J; replace hM := gr hM hQ J; replace hX := gn hX bI J; replace hY := gx hY hQ J; replace hA := gx hA hQ J; replace hZ := gn hZ bs J; replace hU := gx hU hQ J; replace hC := gr hC hQ J; replace hD := gr hD hQ J; replace hQ := ak (aa); clear aa J
 refine hK.out _ _ ⟨hX.out, hA.out⟩ (fun hHeld => ?_)
 clear hK K
 refine pu 10 ag.out ?_
 refine dn ag.out ?_
 clear hHeld
 have HLN := ak (dc (bk nb.addr nb.aff nb.slots (.slice A8 nb.free.length c8) (.slice A9 nb.attrs.length c9)) (ao _ _ _ _ _ HNL.out))
 go_wp2_with (first
  | ((with_reducible refine aJ (N := 23) rfl ?_); refine aN rfl 76 (.tmp 7) rfl gA rfl _ _ _ hA.out Try.underlying76 rfl 2 (by kernel_rfl) rfl ?_)
  | (go_at_call 60; refine (HMY.out _).mono ?_; rintro e sQ ⟨rfl, I⟩; have jB := mv I hB; have kg := mv I hF; have ke := mv I hG; have iV := mv I hS; have iW := mv I hP; have iX := mv I hM; have j8 := mv I hX; have iU := mv I hY; have p5 := mv I hA; have j7 := mv I hZ; have j9 := mv I hU; have kb := mv I hQ; have kl := mv I hC; have kj := mv I hD; clear I hB hF hG hS hP hM hX hY hA hZ hU hQ hC hD)
  | ((with_reducible refine aJ (N := 27) rfl ?_); refine fk (by rfl) ?_; refine aN rfl 62 (.tmp 5) rfl gY rfl _ _ _ iU.out Try.underlying62 rfl 5 (by kernel_rfl) rfl ?_)
  | (go_at_call 100; refine (HIN.out _ (jL.of HM.out iV.out iW.out iX.out)).mono ?_; rintro e Gw ⟨rfl, I⟩; have jS := mv I jB; have kf := mv I kg; have kc := mv I ke; have jy := mv I iV; have jz := mv I iW; have jA := mv I iX; have jO := mv I j8; have jg := mv I iU; have pZ := mv I p5; have jN := mv I j7; have jQ := mv I j9; have jR := mv I kb; have kk := mv I kl; have ki := mv I kj; clear I jB kg ke iV iW iX j8 iU p5 j7 j9 kb kl kj)
  | ((with_reducible refine aJ (N := 41) rfl ?_); refine aN rfl 62 (.tmp 5) rfl gY rfl _ _ _ jg.out Try.underlying62 rfl 5 (by kernel_rfl) rfl ?_)
  | (go_at_call 62; refine (HOF.out _ (jL.of HM.out jy.out jz.out jA.out)).mono ?_; rintro e TT ⟨rfl, I⟩; have nX := mv I jS; have pU := mv I kf; have pT := mv I kc; have pO := mv I jy; have pR := mv I jz; have pS := mv I jA; have nT := mv I jO; have nS := mv I jg; have qD := mv I pZ; have nR := mv I jN; have nV := mv I jQ; have nW := mv I jR; have pY := mv I kk; have pW := mv I ki; clear I jS kf kc jy jz jA jO jg pZ jN jQ jR kk ki)
  | (refine aH (some 13) rfl rfl 76 rfl [.string ⟨#[]⟩, .string ⟨#[]⟩] (fun _ => by kernel_rfl) ?_; intro gV JF J aa I; have dQ := ge nX J; have fL := ne nT J; have fp := ne nS J; have mg := ne qD J; have kU := ne nR J; have eO := ne nV J; have wk := ne nW J; have uo := mv I nX; have ud := mv I pU; have ua := mv I pT; have tK := mv I pO; have tP := mv I pR; have tU := ak (Kd.R_mono (ok' := fun k_ => k_ ≠ gV) (Kd.R_below (Kd.R_bound pS.out) I) (fun k_ dS e_ => by have h_ := dS.2.2.1; omega)); have tF := mv I nT; have tB := mv I nS; have BA := mv I qD; have tv := mv I nR; have tI := mv I nV; have tN := mv I nW; have uj := mv I pY; have ug := mv I pW; have gK := ak (aa); clear J aa I nX pU pT pO pR pS nT nS qD nR nV nW pY pW)
  | (refine a7 rfl 76 (.tmp 13) (.tmp 44) rfl gV [.string (ov b x).f0, .string (ov b x).f1] rfl rfl 76 _ gK.out 2 (by kernel_rfl) rfl rfl (j6 (ov b x)) ?_; intro E2 aa J; have um := gb uo dQ J; have uc := gr ud gK J; have tZ := gr ua gK J; have tJ := gr tK gK J; have tO := gr tP gK J; have tT := ak (Kd.R_mono (ok' := fun _ => True) (Kd.R_grown tU.out J (fun k_ dS e_ => dS (Option.some.inj e_))) (fun _ _ => trivial)); have tE := gx tF gK J; have tA := gx tB gK J; have Bz := gn BA mg J; have tu := gx tv gK J; have tH := gx tI gK J; have tM := gx tN gK J; have ui := gr uj gK J; have uf := gr ug gK J; have Da := ak (aa); clear aa J uo ud ua tK tP tU tF tB BA tv tI tN uj ug gK))
 have aq : Below E2.heap.size E2 E2.drew := bL (Below.refl _ _)
 have Bu := mv aq um; have AZ := mv aq uc; have AR := mv aq tZ; have Ac := mv aq tJ; have Ar := mv aq tO; have Az := mv aq tT; have z2 := mv aq tE; have zW := mv aq tA; have By := mv aq Bz; have zT := mv aq tu; have z5 := mv aq tH; have Ah := mv aq tM; have Bp := mv aq ui; have Bl := mv aq uf
 clear aq um uc tZ tJ tO tT tE tA Bz tu tH tM ui uf
 have hB := Bu
 have hF := AZ
 have hG := AR
 have hS := Ac
 have hP := Ar
 have hM := Az
 have hX := z2
 have hY := zW
 have hA := By
 have hZ := zT
 have hU := z5
 have hQ := Ah
 have hC := Bp
 have hD := Bl
 clear Bu AZ AR Ac Ar Az z2 zW By zT z5 Ah Bp Bl
 refine dR (n := 10) (S := fun w' => aX w' gX (bk b.addr b.aff b.slots (.slice Af b.free.length cf) (.slice Aa b.attrs.length ca)) 57 ∧ aX w' gY (dH b.addr b.aff (.slice As b.slots.length cs) (.slice Ap b.free.length cp) (.slice Am M.length cm)) 62 ∧ aX w' gA [.string a.f0, .string a.f1] 76 ∧ aX w' gQ (bk nb.addr nb.aff nb.slots (.slice A8 nb.free.length c8) (.slice A9 nb.attrs.length c9)) 57) (ds := []) #[false, false, false, false, false, false, false, false, false, false] (by kernel_rfl) rfl rfl ⟨hX.out, hY.out, hA.out, hQ.out⟩ (fun hHeld => ?_); refine b5 xl.tab7 xl.bits7 (fun ag bM => ?_)
 refine tk 0 ag.out bM.out hHeld ?_ (hv := by exact fun _ bj => aY 57 (.tmp 11) rfl gQ rfl _ _ _ bj.2.2.2 Try.underlying57 rfl HLN.out)
 refine tk 1 ag.out bM.out hHeld ?_ (hv := by exact fun _ bj => aY 62 (.tmp 5) rfl gY rfl _ _ _ bj.2.1 Try.underlying62 rfl (by kernel_rfl))
 refine pu 2 ag.out ?_
 refine tk 3 ag.out bM.out hHeld ?_ (hv := by exact fun _ bj => aY 76 (.tmp 7) rfl gA rfl _ _ _ bj.2.2.1 Try.underlying76 rfl (by kernel_rfl))
 refine pu 5 ag.out ?_
 refine pu 6 ag.out ?_
 refine on 4 ag.out (fun K hK => ?_)
 refine gs Try.func107 #[.agg (dH b.addr b.aff (.slice As b.slots.length cs) (.slice Ap b.free.length cp) (.slice Am M.length cm)).toArray, .int .u32 x, .agg #[.string a.f0, .string a.f1]] (HRA.out _ _ ⟨M, As, cs, Ap, cp, Am, cm, rfl, (jL.of HM.out hS.out hP.out hM.out)⟩) ?_
 rintro e V4 ⟨v9, rfl, fS, I⟩
 refine ⟨_, rfl, ?_⟩
 have hRQ := ak (fw.lower' fS (lb HBASE hB)); replace hB := mv I hB; replace hF := mv I hF; replace hG := mv I hG; replace hS := mv I hS; replace hP := mv I hP; replace hM := mv I hM; replace hX := mv I hX; replace hY := mv I hY; replace hA := mv I hA; replace hZ := mv I hZ; replace hU := mv I hU; replace hQ := mv I hQ; replace hC := mv I hC; replace hD := mv I hD; clear fS I; have ZN := hRQ.out; obtain ⟨wZ, sZ, ta, rfl, ie, fP, fi⟩ := ZN; obtain ⟨A1, c1, rfl⟩ := Kd.R_slice ie; obtain ⟨A2, c2, rfl⟩ := Kd.R_slice fP; obtain ⟨NM, hNM⟩ : ∃ NM, NM = nb.attrs.map vc := ⟨_, rfl⟩; rw [← hNM] at fi; have HNM := ak hNM; obtain ⟨A3, c3, rfl⟩ := Kd.R_slice fi; have hI := ak ie; have hJ := ak fP; have hT := ak fi; clear hRQ hNM ie fP fi
 refine kn hK ⟨hX.out, hY.out, hA.out, hQ.out⟩ (fun hHeld => ?_)
 clear hK K
 refine ow 7 ag.out (fun K hK => ?_)
 refine bS (by rfl) rfl 57 (.tmp 8) (.tmp 55) rfl gZ (bk nb.addr nb.aff nb.slots (.slice A8 nb.free.length c8) (.slice A9 nb.attrs.length c9)) rfl rfl 57 _ hZ.out 68 (by kernel_rfl) (ao _ _ _ _ _ HNL.out) rfl (cA _ _ _ _ _ rfl rfl) ?_
 intro V7 aa J; replace hB := gb hB ct J; replace hF := gr hF hZ J; replace hG := gr hG hZ J; replace hS := gr hS hZ J; replace hP := gr hP hZ J; replace hM := gr hM hZ J; replace hX := gn hX aU J; replace hY := gx hY hZ J; replace hA := gx hA hZ J; replace hU := gx hU hZ J; replace hQ := gm hQ bs J; replace hC := gr hC hZ J; replace hD := gr hD hZ J; replace hI := gr hI hZ J; replace hJ := gr hJ hZ J; replace hT := gr hT hZ J; replace hZ := ak (aa); clear aa J
 refine hK.out _ _ ⟨hX.out, hY.out, hA.out, hQ.out⟩ (fun hHeld => ?_)
 clear hK K
 refine ow 8 ag.out (fun K hK => ?_)
 refine bS (by rfl) rfl 62 (.tmp 9) (.tmp 59) rfl gU (dH nb.addr nb.aff (.slice A1 nb.slots.length c1) (.slice A2 nb.free.length c2) (.slice A3 NM.length c3)) rfl rfl 62 _ hU.out 5 (by kernel_rfl) rfl rfl (et _ _ rfl rfl rfl) ?_
 intro V8 aa J; replace hB := gb hB fR J; replace hF := gr hF hU J; replace hG := gr hG hU J; replace hS := gr hS hU J; replace hP := gr hP hU J; replace hM := gr hM hU J; replace hX := gx hX hU J; replace hY := gn hY dO J; replace hA := gx hA hU J; replace hZ := gx hZ hU J; replace hQ := gx hQ hU J; replace hC := gr hC hU J; replace hD := gr hD hU J; replace hI := gr hI hU J; replace hJ := gr hJ hU J; replace hT := gr hT hU J; replace hU := ak (aa); clear aa J
 refine hK.out _ _ ⟨hX.out, hY.out, hA.out, hQ.out⟩ (fun hHeld => ?_)
 clear hK K
 refine pu 9 ag.out ?_
 refine dn ag.out ?_
 clear hHeld
 go_wp2_with fail
 refine bodyPost_ret (fD rfl _ _ _ gZ gU 57 62 _ _ _ _ rfl hZ.out rfl Try.underlying57 (by first | exact HLB.out | exact HLN.out) rfl hU.out rfl Try.underlying62 (by kernel_rfl)) rfl ⟨_, _, nb, rfl, ?_, ?_, ?_, hB.out⟩
 ·exact HRG.out
 ·exact ⟨HNL.out, _, _, rfl, hC.out, hD.out⟩
 ·exact ⟨_, _, _, rfl, hI.out, hJ.out, by rw [← HNM.out]; exact hT.out⟩
theorem FF (b : Bk) (hg : RG b) (x : Int) (h0 : 0 ≤ x) (h1 : x < 4294967296) (a : lN) (fE : a.f0.size ≤ 9223372036854775807) (gh : a.f1.size ≤ 9223372036854775807) (v v2 : Value) (w : World) (base : Nat) (hbase : base ≤ w.heap.size) (hO : eP w base v b) (hR : fw w base v2 b) :
  Calls Try.prog 83 #[v, v2, .int .u32 x, .agg #[.string a.f0, .string a.f1]] w fun e w' => ∃ v1 v2 b', e = .returned (.tuple #[v1, v2, .bool true]) ∧ RG b' ∧ eP w' base v1 b' ∧ fw w' base v2 b' ∧ Below w.heap.size w w' := by
 cases hma : fj (cv a) with
 | false => exact FE b hg x h0 h1 a fE gh hma v v2 w base hbase hO hR
 | true =>
  by_cases hin : cC x = b.addr
  ·cases hh : ku b x with
   | true => exact CS b hg x h0 h1 a fE gh hma hin hh v v2 w base hbase hO hR
   | false => exact FC b hg x h0 h1 a fE gh hma hin hh v v2 w base hbase hO hR
  ·exact FD b hg x h0 h1 a fE gh hma hin v v2 w base hbase hO hR
end Go.Proofs.Ytemhalnhbgkbcaa.V
end

section
namespace Go.Proofs.Ytemhalnhbgkbcaa.V
set_option maxHeartbeats 8000000 in
set_option maxRecDepth 100000 in
theorem Cz (a : At) (id : ByteArray) (g : Nat) (w : World) (h : aX w g [.string id] 9) : Calls Try.prog 97 #[.agg #[.string a.f0, .string a.f1], .pointer (some ⟨g, 0, none⟩)] w fun e w' => e = .returned (.bool (a.f0.toList == id.toList)) ∧ Below w.heap.size w w' := by
 go_enter Try.func97, Try.ntmps97
 go_wp2_with (refine aV rfl 85 (.tmp 0) rfl [.string a.f0, .string a.f1] rfl ?_; intro g1 W1 J aa I; have sG := aa.cell 0 _ rfl; have kR := (h.below I).cell 0 _ rfl; have HB := ak I; clear J aa I)
 go_ret
 exact ⟨rfl, HB.out⟩
set_option maxHeartbeats 8000000 in
set_option maxRecDepth 100000 in
theorem Gf (a : At) (id : ByteArray) (g : Nat) (w : World) (h : aX w g [.string id] 9) : Calls Try.prog 98 #[.agg #[.string a.f0, .string a.f1], .pointer (some ⟨g, 0, none⟩)] w fun e w' => e = .returned (.bool (a.f1.toList == id.toList)) ∧ Below w.heap.size w w' := by
 go_enter Try.func98, Try.ntmps98
 go_wp2_with (refine aV rfl 85 (.tmp 0) rfl [.string a.f0, .string a.f1] rfl ?_; intro g1 W1 J aa I; have sG := aa.cell 1 _ rfl; have kR := (h.below I).cell 0 _ rfl; have HB := ak I; clear J aa I)
 go_ret
 exact ⟨rfl, HB.out⟩
set_option maxHeartbeats 8000000 in
set_option maxRecDepth 100000 in
theorem Fj (b : Bk) (hk : BkOk b) (hp : RightP b) (v : Value) (w : World) (h : jb w v b) (id : ByteArray) (g : Nat) (hid : aX w g [.string id] 9) :
  Calls Try.prog 96 #[v, .func (.func 97) #[] #[.pointer (some ⟨g, 0, none⟩)]] w fun e w' => ∃ vo, e = .returned vo ∧ Kd.R (Kd.int .u32) 46 w' w.heap.size (fun _ => True) vo (fb b (fun a => a.f0.toList == id.toList) 64) ∧ Below w.heap.size w w' := by
 obtain ⟨A, c, A', c', rfl, hr⟩ := h
 have HL := ak hr.l64
 have HR := ak hr
 have HK := ak hk
 have HP := ak hp
 have an := ak (Below.refl w.heap.size w)
 have HLN := ak (show (Try.prog.info? 47).map (·.size) = some (b.slots.map (Value.int .u8)).length by rw [List.length_map, hr.l64]; kernel_rfl)
 have Ek : 0 ≤ b.addr := hk.a0
 have my : b.addr + 64 ≤ 4294967296 := by
  have h1 := hp.first
  have h2 := hk.a1
  unfold cC at h1
  omega
 have HID := ak hid
 clear hid
 clear hr hk hp
 go_enter Try.func96, Try.ntmps96
 go_wp2_with (first
  | (refine aV rfl 57 (.tmp 0) rfl _ rfl ?_; intro gX W1 J aa I; have cw := ge an J; have aA := ak (an.out.trans (I.mono an.out.size)); have au := ak (aa); clear J aa I an)
  | (refine fN rfl 47 (.tmp 8) rfl gX 2 rfl 57 _ (b.slots.map (Value.int .u8)) (.array 64 5) au.out (mf _ _ _ _ _ HL.out) Try.underlying47 rfl HLN.out ?_))
 go_loopw [5, 6, 7, 10] (fun q _ _ i W => ∃ k : Nat, k ≤ 64 ∧ i = .int .i64 k ∧ Aside0 (aX W gX (bk b.addr b.aff b.slots (.slice A b.free.length c) (.slice A' b.attrs.length c')) 57) ∧ Aside0 (Kd.R (Kd.int .u32) 46 W w.heap.size (fun _ => True) q (fb b (fun a => a.f0.toList == id.toList) k)) ∧ Aside0 (Below w.heap.size w W)) (fun _ _ _ i _ => 64 - (intOf i).toNat)
 case atStart => exact ⟨0, by omega, rfl, au, ⟨Kd.R_nil _ _ _ _ _⟩, aA⟩
 case round =>
  clear aA au
  obtain ⟨k, hk, rfl, aZ, b9, an⟩ := hrel
  obtain ⟨W, rfl⟩ : ∃ W : World, W = wr := ⟨_, rfl⟩
  have hul := km b (fun a => a.f0.toList == id.toList) k
  by_cases p8 : k < 64
  ·have hkb : decide ((k : Int) < 64) = true := by simp; omega
   have hkl : k < b.slots.length := by have := HL.out; omega
   have hus := ux b (fun a => a.f0.toList == id.toList) k
   obtain ⟨oo, hoo⟩ : ∃ oo, oo = fb b (fun a => a.f0.toList == id.toList) k := ⟨_, rfl⟩
   rw [← hoo] at b9 hus hul
   have HUL := ak (show oo.length ≤ 100 by omega)
   have hms := HK.out.s8 _ (List.getElem_mem hkl)
   have hml := HP.out.sa _ (List.getElem_mem hkl)
   have hna := HP.out.na
   have hge : b.slots.getD k 0 = b.slots[k] := by simp [List.getD, hkl]
   have hix := fun w => qe b.slots HL.out k p8 w
   rw [hge] at hix hus
   by_cases sC : b.slots[k] = 0
   ·rw [sC] at hix hus
    have HUS := ak (show fb b (fun a => a.f0.toList == id.toList) (k + 1) = oo by rw [hus]; simp)
    clear hus hms hml hge sC hoo hul
    go_wp2_with fail
    go_roundw
    case rel => exact ⟨k + 1, by omega, by go_num, aZ, ⟨by rw [HUS.out]; exact b9.out⟩, an⟩
    case measure => simp [intOf]; omega
   ·obtain ⟨m, hm⟩ : ∃ m : Nat, b.slots[k] = (m : Int) + 1 := ⟨(b.slots[k]).toNat - 1, by omega⟩
    have hheld : mu b k = iR b.attrs m := by
     unfold mu
     rw [hge, hm]
     congr 1
     omega
    rw [hm] at hix hus hml hms
    try rw [hheld] at hus
    have ht : (((m : Int) + 1) != 0) = true := by simp; omega
    have hma : m < b.attrs.length := by omega
    obtain ⟨ad, eA, kE, mq⟩ := nv (HR.out.below an.out).ar m (by omega) (by omega)
    cases eA
    rw [Int.toNat_natCast] at kE mq
    have p1 : ((m : Int) < (b.attrs.length : Int)) = True := eq_true (by omega)
    obtain ⟨a, ha⟩ : ∃ a : At, iR b.attrs m = a := ⟨_, rfl⟩
    have ha' : dE b.attrs (m : Int) = a := ha
    rw [ha'] at kE mq
    try rw [ha] at hus
    rw [ht, Bool.true_and] at hus
    have rj := aZ.out.cell 67 _ (gv _ _ _ _ _ HL.out)
    obtain ⟨Ao, co, rfl⟩ := Kd.R_slice b9.out
    cases hpa : (a.f0.toList == id.toList) with
    | true =>
     have HPA := ak hpa
     obtain ⟨o1, fT⟩ : ∃ o1, o1 = oo ++ [b.addr + (k : Int)] := ⟨_, rfl⟩
     have mZ := ak fT
     have HUS := ak (show fb b (fun a => a.f0.toList == id.toList) (k + 1) = o1 by rw [hus, fT]; simp [hpa])
     clear hus hms hml hge sC hoo hul hm hheld ha ha' fT hpa
     go_wp2_with (first
      | (go_at_call 97; refine (Cz a id g _ (HID.out.below an.out)).mono ?_; rintro e W1 ⟨rfl, I⟩; rw [HPA.out]; have au := mv I aZ; have dt := mv I b9; have aA := ak (an.out.trans (I.mono an.out.size)); have mP := au.out.cell 0 _ rfl; clear I aZ b9 an rj)
      | ((with_reducible refine cy (b := .append) (xs := #[.tmp 26, .tmp 32]) rfl ?_); at_builtin; refine Kd.R_append (Kd.int .u32) (w0 := w) w.heap.size rfl (.tmp 26) (.tmp 32) 77 46 (.int .u32 0) 4 rfl Try.underlying77 ko rfl (by decide) (by omega) _ oo (b.addr + (k : Int)) [.int .u32 (b.addr + (k : Int))] (fun _ => True) (fun _ => False) rfl rfl rfl (fun _ hk => hk.elim) (fun _ _ => trivial) dt.out aA.out aA.out.size (by have := HUL.out; omega) ?_; intro v_ W2 bc I J gp; rw [← mZ.out] at bc; have aI := ak (au.out.grown J (au.out.ne_row dt.out (by decide))); have dv := ak (bc); have aK := ak (I); obtain ⟨AO, cO, rfl⟩ := Kd.R_slice bc; clear bc I J gp au dt aA mP))
     go_roundw
     case rel => exact ⟨k + 1, by omega, by go_num, aI, ⟨by rw [HUS.out]; exact dv.out⟩, aK⟩
     case measure => simp [intOf]; omega
    | false =>
     have HPA := ak hpa
     have HUS := ak (show fb b (fun a => a.f0.toList == id.toList) (k + 1) = oo by rw [hus]; simp [hpa])
     clear hus hms hml hge sC hoo hul hm hheld ha ha' hpa
     go_wp2_with (first
      | (go_at_call 97; refine (Cz a id g _ (HID.out.below an.out)).mono ?_; rintro e W1 ⟨rfl, I⟩; rw [HPA.out]; have au := mv I aZ; have dt := mv I b9; have aA := ak (an.out.trans (I.mono an.out.size)); clear I aZ b9 an rj))
     go_roundw
     case rel => exact ⟨k + 1, by omega, by go_num, au, ⟨by rw [HUS.out]; exact dt.out⟩, aA⟩
     case measure => simp [intOf]; omega
  ·obtain rfl : k = 64 := by omega
   rw [show ((64 : Nat) : Int) = (64 : Int) from rfl]
   have hkb : decide ((64 : Int) < 64) = false := by decide
   go_wp2
   go_ret
   exact ⟨_, rfl, b9.out, an.out⟩
set_option maxHeartbeats 8000000 in
set_option maxRecDepth 100000 in
theorem Iu (b : Bk) (hk : BkOk b) (hp : RightP b) (v : Value) (w : World) (h : jb w v b) (id : ByteArray) (g : Nat) (hid : aX w g [.string id] 9) :
  Calls Try.prog 96 #[v, .func (.func 98) #[] #[.pointer (some ⟨g, 0, none⟩)]] w fun e w' => ∃ vo, e = .returned vo ∧ Kd.R (Kd.int .u32) 46 w' w.heap.size (fun _ => True) vo (fb b (fun a => a.f1.toList == id.toList) 64) ∧ Below w.heap.size w w' := by
 obtain ⟨A, c, A', c', rfl, hr⟩ := h
 have HL := ak hr.l64
 have HR := ak hr
 have HK := ak hk
 have HP := ak hp
 have an := ak (Below.refl w.heap.size w)
 have HLN := ak (show (Try.prog.info? 47).map (·.size) = some (b.slots.map (Value.int .u8)).length by rw [List.length_map, hr.l64]; kernel_rfl)
 have Ek : 0 ≤ b.addr := hk.a0
 have my : b.addr + 64 ≤ 4294967296 := by
  have h1 := hp.first
  have h2 := hk.a1
  unfold cC at h1
  omega
 have HID := ak hid
 clear hid
 clear hr hk hp
 go_enter Try.func96, Try.ntmps96
 go_wp2_with (first
  | (refine aV rfl 57 (.tmp 0) rfl _ rfl ?_; intro gX W1 J aa I; have cw := ge an J; have aA := ak (an.out.trans (I.mono an.out.size)); have au := ak (aa); clear J aa I an)
  | (refine fN rfl 47 (.tmp 8) rfl gX 2 rfl 57 _ (b.slots.map (Value.int .u8)) (.array 64 5) au.out (mf _ _ _ _ _ HL.out) Try.underlying47 rfl HLN.out ?_))
 go_loopw [5, 6, 7, 10] (fun q _ _ i W => ∃ k : Nat, k ≤ 64 ∧ i = .int .i64 k ∧ Aside0 (aX W gX (bk b.addr b.aff b.slots (.slice A b.free.length c) (.slice A' b.attrs.length c')) 57) ∧ Aside0 (Kd.R (Kd.int .u32) 46 W w.heap.size (fun _ => True) q (fb b (fun a => a.f1.toList == id.toList) k)) ∧ Aside0 (Below w.heap.size w W)) (fun _ _ _ i _ => 64 - (intOf i).toNat)
 case atStart => exact ⟨0, by omega, rfl, au, ⟨Kd.R_nil _ _ _ _ _⟩, aA⟩
 case round =>
  clear aA au
  obtain ⟨k, hk, rfl, aZ, b9, an⟩ := hrel
  obtain ⟨W, rfl⟩ : ∃ W : World, W = wr := ⟨_, rfl⟩
  have hul := km b (fun a => a.f1.toList == id.toList) k
  by_cases p8 : k < 64
  ·have hkb : decide ((k : Int) < 64) = true := by simp; omega
   have hkl : k < b.slots.length := by have := HL.out; omega
   have hus := ux b (fun a => a.f1.toList == id.toList) k
   obtain ⟨oo, hoo⟩ : ∃ oo, oo = fb b (fun a => a.f1.toList == id.toList) k := ⟨_, rfl⟩
   rw [← hoo] at b9 hus hul
   have HUL := ak (show oo.length ≤ 100 by omega)
   have hms := HK.out.s8 _ (List.getElem_mem hkl)
   have hml := HP.out.sa _ (List.getElem_mem hkl)
   have hna := HP.out.na
   have hge : b.slots.getD k 0 = b.slots[k] := by simp [List.getD, hkl]
   have hix := fun w => qe b.slots HL.out k p8 w
   rw [hge] at hix hus
   by_cases sC : b.slots[k] = 0
   ·rw [sC] at hix hus
    have HUS := ak (show fb b (fun a => a.f1.toList == id.toList) (k + 1) = oo by rw [hus]; simp)
    clear hus hms hml hge sC hoo hul
    go_wp2_with fail
    go_roundw
    case rel => exact ⟨k + 1, by omega, by go_num, aZ, ⟨by rw [HUS.out]; exact b9.out⟩, an⟩
    case measure => simp [intOf]; omega
   ·obtain ⟨m, hm⟩ : ∃ m : Nat, b.slots[k] = (m : Int) + 1 := ⟨(b.slots[k]).toNat - 1, by omega⟩
    have hheld : mu b k = iR b.attrs m := by
     unfold mu
     rw [hge, hm]
     congr 1
     omega
    rw [hm] at hix hus hml hms
    try rw [hheld] at hus
    have ht : (((m : Int) + 1) != 0) = true := by simp; omega
    have hma : m < b.attrs.length := by omega
    obtain ⟨ad, eA, kE, mq⟩ := nv (HR.out.below an.out).ar m (by omega) (by omega)
    cases eA
    rw [Int.toNat_natCast] at kE mq
    have p1 : ((m : Int) < (b.attrs.length : Int)) = True := eq_true (by omega)
    obtain ⟨a, ha⟩ : ∃ a : At, iR b.attrs m = a := ⟨_, rfl⟩
    have ha' : dE b.attrs (m : Int) = a := ha
    rw [ha'] at kE mq
    try rw [ha] at hus
    rw [ht, Bool.true_and] at hus
    have rj := aZ.out.cell 67 _ (gv _ _ _ _ _ HL.out)
    obtain ⟨Ao, co, rfl⟩ := Kd.R_slice b9.out
    cases hpa : (a.f1.toList == id.toList) with
    | true =>
     have HPA := ak hpa
     obtain ⟨o1, fT⟩ : ∃ o1, o1 = oo ++ [b.addr + (k : Int)] := ⟨_, rfl⟩
     have mZ := ak fT
     have HUS := ak (show fb b (fun a => a.f1.toList == id.toList) (k + 1) = o1 by rw [hus, fT]; simp [hpa])
     clear hus hms hml hge sC hoo hul hm hheld ha ha' fT hpa
     go_wp2_with (first
      | (go_at_call 98; refine (Gf a id g _ (HID.out.below an.out)).mono ?_; rintro e W1 ⟨rfl, I⟩; rw [HPA.out]; have au := mv I aZ; have dt := mv I b9; have aA := ak (an.out.trans (I.mono an.out.size)); have mP := au.out.cell 0 _ rfl; clear I aZ b9 an rj)
      | ((with_reducible refine cy (b := .append) (xs := #[.tmp 26, .tmp 32]) rfl ?_); at_builtin; refine Kd.R_append (Kd.int .u32) (w0 := w) w.heap.size rfl (.tmp 26) (.tmp 32) 77 46 (.int .u32 0) 4 rfl Try.underlying77 ko rfl (by decide) (by omega) _ oo (b.addr + (k : Int)) [.int .u32 (b.addr + (k : Int))] (fun _ => True) (fun _ => False) rfl rfl rfl (fun _ hk => hk.elim) (fun _ _ => trivial) dt.out aA.out aA.out.size (by have := HUL.out; omega) ?_; intro v_ W2 bc I J gp; rw [← mZ.out] at bc; have aI := ak (au.out.grown J (au.out.ne_row dt.out (by decide))); have dv := ak (bc); have aK := ak (I); obtain ⟨AO, cO, rfl⟩ := Kd.R_slice bc; clear bc I J gp au dt aA mP))
     go_roundw
     case rel => exact ⟨k + 1, by omega, by go_num, aI, ⟨by rw [HUS.out]; exact dv.out⟩, aK⟩
     case measure => simp [intOf]; omega
    | false =>
     have HPA := ak hpa
     have HUS := ak (show fb b (fun a => a.f1.toList == id.toList) (k + 1) = oo by rw [hus]; simp [hpa])
     clear hus hms hml hge sC hoo hul hm hheld ha ha' hpa
     go_wp2_with (first
      | (go_at_call 98; refine (Gf a id g _ (HID.out.below an.out)).mono ?_; rintro e W1 ⟨rfl, I⟩; rw [HPA.out]; have au := mv I aZ; have dt := mv I b9; have aA := ak (an.out.trans (I.mono an.out.size)); clear I aZ b9 an rj))
     go_roundw
     case rel => exact ⟨k + 1, by omega, by go_num, au, ⟨by rw [HUS.out]; exact dt.out⟩, aA⟩
     case measure => simp [intOf]; omega
  ·obtain rfl : k = 64 := by omega
   rw [show ((64 : Nat) : Int) = (64 : Int) from rfl]
   have hkb : decide ((64 : Int) < 64) = false := by decide
   go_wp2
   go_ret
   exact ⟨_, rfl, b9.out, an.out⟩
end Go.Proofs.Ytemhalnhbgkbcaa.V
end

section
namespace Go.Proofs.Ytemhalnhbgkbcaa.V
def zj : List Int := List.replicate 65 0
theorem NH (w : World) : (zeroValue 146).run Try.prog w = .ok (.agg (zj.map (Value.int .u8)).toArray) w := by kernel_rfl
theorem F1 (l : List Int) (i : Nat) (h : i < l.length) : (l.map (Value.int .u8))[i]? = some (.int .u8 (l.getD i 0)) := by simp [List.getD, h]
set_option maxHeartbeats 16000000 in
set_option maxRecDepth 100000 in
theorem FJ (b : Bk) (hs : pI b.slots) (hn : b.attrs.length ≤ 64) (hle : ∀ s ∈ b.slots, s ≤ (b.attrs.length : Int)) (v : Value) (w : World) (base : Nat) (mw : base ≤ w.heap.size) (h : eP w base v b) :
  Calls Try.prog 95 #[v] w fun e w' => ∃ v', e = .returned v' ∧ eP w' base v' (lP b) ∧ Below w.heap.size w w' := by
 obtain ⟨hl, vf, va, rfl, hrf, hra⟩ := h
 obtain ⟨A, c, rfl⟩ := Kd.R_slice hrf
 obtain ⟨A', c', rfl⟩ := Kd.R_slice hra
 have HC := ak (Kd.R_reads' hra).2.2
 have HRF := ak hrf
 have JP := ak mw
 have HL := ak hl
 have HS := ak hs
 have HLE := ak hle
 have an := ak (Below.refl w.heap.size w)
 have HLN := ak (show (Try.prog.info? 47).map (·.size) = some (b.slots.map (Value.int .u8)).length by rw [List.length_map, hl]; kernel_rfl)
 clear hrf hra mw hl hs hle
 go_enter Try.func95, Try.ntmps95
 go_wp2_with (first
  | (refine aV rfl 57 (.tmp 0) rfl _ rfl ?_; intro gX W1 J aa I; have cw := ge an J; have aA := ak (an.out.trans (I.mono an.out.size)); have au := ak (aa); clear J aa I an)
  | (refine aH (some 2) rfl rfl 57 rfl bu b6 ?_; intro gZ W2 J aa I; have ct := ge aA J; have aU := ne au J; have aK := mv I aA; have aI := mv I au; have de := ak (aa); clear J aa I aA au)
  | (refine aH (some 3) rfl rfl 146 rfl (zj.map (Value.int .u8)) NH ?_; intro gT W3 J aa I; have ld := ge aK J; have iL := ne aI J; have UF := ne de J; have aT := mv I aK; have aQ := mv I aI; have cD := mv I de; have ey := ak (aa); clear J aa I aK aI de)
  | (refine fN rfl 47 (.tmp 12) rfl gX 2 rfl 57 _ (b.slots.map (Value.int .u8)) (.array 64 5) aQ.out (mf _ _ _ _ _ HL.out) Try.underlying47 rfl HLN.out ?_))
 go_loopw [5, 7, 14] (fun u _ i W => ∃ k : Nat, k ≤ 64 ∧ i = .int .i64 k ∧ u = .int .u64 ((gy (b.slots.take k) : Nat) : Int) ∧ Aside0 (aX W gX (bk b.addr b.aff b.slots (.slice A b.free.length c) (.slice A' b.attrs.length c')) 57) ∧ Aside0 (aX W gZ bu 57) ∧ Aside0 (aX W gT (zj.map (Value.int .u8)) 146) ∧ Aside0 (Below w.heap.size w W)) (fun _ _ i _ => 64 - (intOf i).toNat)
 case atStart => exact ⟨0, by omega, rfl, rfl, aQ, cD, ey, aT⟩
 case round =>
  clear aQ cD ey aT
  obtain ⟨k, hk, rfl, rfl, aZ, bT, mR, an⟩ := hrel
  obtain ⟨W, rfl⟩ : ∃ W : World, W = wr := ⟨_, rfl⟩
  by_cases p8 : k < 64
  ·have hkb : decide ((k : Int) < 64) = true := by simp; omega
   have hkl : k < b.slots.length := by have := HL.out; omega
   obtain ⟨m, hm⟩ : ∃ m : Nat, b.slots[k] = (m : Int) := ⟨(b.slots[k]).toNat, by have := (HS.out _ (List.getElem_mem hkl)).1; omega⟩
   have sB : m < 256 := by have := (HS.out _ (List.getElem_mem hkl)).2; omega
   have hix := fun w => qe b.slots HL.out k p8 w
   rw [show b.slots.getD k 0 = (m : Int) by rw [← hm]; simp [List.getD, hkl]] at hix
   have HU := ak (It b.slots k hkl m hm)
   clear hm
   go_wp2_with (go_at_call 21; refine (Sd (gy (b.slots.take k)) (qH _) _ _).mono ?_; rintro e W1 ⟨rfl, I⟩; rw [HU.out]; have au := mv I aZ; have cd := mv I bT; have jh := mv I mR; have aA := ak (an.out.trans (I.mono an.out.size)); clear I aZ bT mR an)
   go_roundw
   case rel => exact ⟨k + 1, by omega, by go_num, rfl, au, cd, jh, aA⟩
   case measure => simp [intOf]; omega
  ·obtain rfl : k = 64 := by omega
   rw [show ((64 : Nat) : Int) = (64 : Int) from rfl]
   have hkb : decide ((64 : Int) < 64) = false := by decide
   have UK := ak (show b.slots.take 64 = b.slots from List.take_of_length_le (by have := HL.out; omega))
   rw [UK.out]
   have rj := aZ.out.cell 67 _ (gv _ _ _ _ _ HL.out)
   obtain ⟨us, hus⟩ : ∃ us, us = gy b.slots := ⟨_, rfl⟩
   rw [← hus]
   have HUS := ak hus
   have HUL := ak (show us < 18446744073709551616 by rw [hus]; exact qH _)
   rw [show zj = iN b.slots 0 from (Dt b.slots).symm] at mR
   clear hus
   go_wp2_with fail
   clear rj
   go_loopw [4, 8, 9, 26] (fun q _ _ i W => ∃ k : Nat, k ≤ b.attrs.length ∧ i = .int .i64 k ∧ Aside0 (aX W gX (bk b.addr b.aff b.slots (.slice A b.free.length c) (.slice A' b.attrs.length c')) 57) ∧ Aside0 (aX W gZ bu 57) ∧ Aside0 (aX W gT ((iN b.slots k).map (Value.int .u8)) 146) ∧ Aside0 (Kd.R lf 85 W w.heap.size (fun _ => True) q (jM b k)) ∧ Aside0 (Below w.heap.size w W)) (fun _ _ _ i _ => b.attrs.length - (intOf i).toNat)
   case atStart => exact ⟨0, by omega, rfl, aZ, bT, mR, ⟨Kd.R_nil _ _ _ _ _⟩, an⟩
   case round =>
    clear aZ bT mR an
    obtain ⟨k, hk, rfl, aZ, bT, mR, oR, an⟩ := hrel
    obtain ⟨W, rfl⟩ : ∃ W : World, W = wr := ⟨_, rfl⟩
    by_cases hkn : k < b.attrs.length
    ·have hkb : decide ((k : Int) < (b.attrs.length : Int)) = true := by simp; omega
     obtain ⟨ad, eA, kE, mq⟩ := nv (Kd.C_below HC.out an.out) k (by omega) (by omega)
     cases eA
     rw [Int.toNat_natCast] at kE mq
     have p1 : ((k : Int) < (b.attrs.length : Int)) = True := eq_true (by omega)
     obtain ⟨a, ha⟩ : ∃ a : At, iR b.attrs k = a := ⟨_, rfl⟩
     have ha' : dE b.attrs (k : Int) = a := ha
     rw [ha'] at kE mq
     have HAT := ak ha
     obtain ⟨kn, wb⟩ : ∃ kn, kn = jM b k := ⟨_, rfl⟩
     have HKN := ak wb
     have HKL := ak (show kn.length ≤ k by rw [wb, nf]; exact yQ _ _)
     rw [← wb] at oR
     obtain ⟨Ak, ck, rfl⟩ := Kd.R_slice oR.out
     have HHS := ak (show hasB us (k : Int) = eL b.slots k by rw [HUS.out]; exact KB b.slots k (by omega))
     clear ha ha' wb
     cases hu : eL b.slots k with
     | false =>
      rw [hu] at HHS
      have dq := ak (show kn = jM b (k + 1) by rw [rq, hu, HKN.out]; simp)
      have HTU := ak (Fl b.slots k hu)
      clear hu
      go_wp2_with (first
       | (refine aH (some 9) rfl rfl 85 rfl [.string ⟨#[]⟩, .string ⟨#[]⟩] (fun _ => by kernel_rfl) ?_; intro gV W1 J aa I; have dQ := ge an J; have fL := ne aZ J; have kU := ne bT J; have sR := ne mR J; have au := mv I aZ; have cd := mv I bT; have jh := mv I mR; have uI := ak (Kd.R_mono (ok' := fun k_ => k_ ≠ gV) (Kd.R_below (Kd.R_bound oR.out) I) (fun k_ dS e_ => by have h_ := dS.2.2.1; omega)); have aA := ak (an.out.trans (I.mono an.out.size)); have iI := ak (aa); clear J aa I aZ bT mR oR an)
       | (refine a7 rfl 85 (.tmp 9) (.tmp 30) rfl gV [.string a.f0, .string a.f1] rfl rfl 85 _ iI.out 2 (by kernel_rfl) rfl rfl (j6 a) ?_; intro W2 aa J; have aI := gx au iI J; have de := gx cd iI J; have re := gx jh iI J; have zg := ak (Kd.R_mono (ok' := fun _ => True) (Kd.R_grown uI.out J (fun k_ dS e_ => dS (Option.some.inj e_))) (fun _ _ => trivial)); have aK := gb aA dQ J; have eC := ak (aa); clear aa J au cd jh uI aA iI)
       | (go_at_call 20; refine (Lr us HUL.out (k : Int) _).mono ?_; rintro e W3 ⟨rfl, I⟩; rw [HHS.out]; have aQ := mv I aI; have cD := mv I de; have ey := mv I re; have zf := mv I zg; have aT := mv I aK; have ql := mv I eC; clear I aI de re zg aK eC))
      go_roundw
      case rel => exact ⟨k + 1, by omega, by go_num, aQ, cD, ⟨by rw [HTU.out]; exact ey.out⟩, ⟨by rw [← dq.out]; exact zf.out⟩, aT⟩
      case measure => simp [intOf]; omega
     | true =>
      rw [hu] at HHS
      obtain ⟨k1, Ll⟩ : ∃ k1, k1 = kn ++ [a] := ⟨_, rfl⟩
      have dq := ak (show k1 = jM b (k + 1) by rw [Ll, rq, hu, if_pos rfl, HKN.out, HAT.out])
      have lH := ak Ll
      have HTU := ak (Du b.slots k (by omega) hu)
      have HRK := ak (show (k1.length : Int) = ((fZ b.slots (k + 1) : Nat) : Int) by rw [dq.out, nf])
      have ah0 : k1.length ≤ 64 := by rw [Ll, List.length_append, List.length_singleton]; have := HKL.out; omega
      have pt : ((k : Int) + 1 < 65) = True := eq_true (by omega)
      clear hu Ll
      go_wp2_with (first
       | (refine aH (some 9) rfl rfl 85 rfl [.string ⟨#[]⟩, .string ⟨#[]⟩] (fun _ => by kernel_rfl) ?_; intro gV W1 J aa I; have dQ := ge an J; have fL := ne aZ J; have kU := ne bT J; have sR := ne mR J; have au := mv I aZ; have cd := mv I bT; have jh := mv I mR; have uI := ak (Kd.R_mono (ok' := fun k_ => k_ ≠ gV) (Kd.R_below (Kd.R_bound oR.out) I) (fun k_ dS e_ => by have h_ := dS.2.2.1; omega)); have aA := ak (an.out.trans (I.mono an.out.size)); have iI := ak (aa); clear J aa I aZ bT mR oR an)
       | (refine a7 rfl 85 (.tmp 9) (.tmp 30) rfl gV [.string a.f0, .string a.f1] rfl rfl 85 _ iI.out 2 (by kernel_rfl) rfl rfl (j6 a) ?_; intro W2 aa J; have aI := gx au iI J; have de := gx cd iI J; have re := gx jh iI J; have zg := ak (Kd.R_mono (ok' := fun _ => True) (Kd.R_grown uI.out J (fun k_ dS e_ => dS (Option.some.inj e_))) (fun _ _ => trivial)); have aK := gb aA dQ J; have eC := ak (aa); clear aa J au cd jh uI aA iI)
       | (go_at_call 20; refine (Lr us HUL.out (k : Int) _).mono ?_; rintro e W3 ⟨rfl, I⟩; rw [HHS.out]; have aQ := mv I aI; have cD := mv I de; have ey := mv I re; have zf := mv I zg; have aT := mv I aK; have ql := mv I eC; have ob := ql.out.cell 0 _ rfl; have mO := ql.out.cell 1 _ rfl; clear I aI de re zg aK eC)
       | ((with_reducible refine cy (b := .append) (xs := #[.tmp 34, .tmp 36]) rfl ?_); at_builtin; refine Kd.R_append lf (w0 := w) w.heap.size rfl (.tmp 34) (.tmp 36) 55 85 (.agg #[.string ⟨#[]⟩, .string ⟨#[]⟩]) 32 rfl Try.underlying55 BN rfl (by decide) (by omega) _ kn a [.string a.f0, .string a.f1] (fun _ => True) (fun _ => False) rfl rfl (BK _ _ _ _) (fun _ hk => hk.elim) (fun _ _ => trivial) zf.out aT.out aT.out.size (by have := HKL.out; omega) ?_; intro v_ W4 bc I J gp; rw [← lH.out] at bc; have bg := ak (aQ.out.grown J (aQ.out.ne_row zf.out (by decide))); have bB := ak (cD.out.grown J (cD.out.ne_row zf.out (by decide))); have eF := ak (ey.out.grown J (ey.out.ne_row zf.out (by decide))); have RA := ak (bc); have bq := ak (I); obtain ⟨AK, cK, rfl⟩ := Kd.R_slice bc; have Hg := eF.out.cell (k + 1) _ (F1 _ _ (by rw [uK]; omega)); have Up := eF.out.frozen (k + 1); clear bc I J gp aQ cD ey zf aT ob mO))
      generalize cr : W4.setCell ⟨gT, k + 1, none⟩ (.int .u8 (k1.length : Int)) = W5; have J : W4.grownBy W5 (some gT) := (by rw [← cr]; exact bP _ _ _ _); have bz := gx bg eF J; have bY := gx bB eF J; have bQ := ak (eF.out.set (k + 1) (.int .u8 (k1.length : Int))); have US := gr RA eF J; have bE := gb bq ld J; rw [cr] at bQ; clear cr J bg bB eF RA bq Hg Up
      have HTT := ak (show aX W5 gT ((iN b.slots (k + 1)).map (Value.int .u8)) 146 by have h_ := bQ.out; rw [HRK.out, ← List.map_set, HTU.out] at h_; exact h_)
      go_roundw
      case rel => exact ⟨k + 1, by omega, by go_num, bz, bY, HTT, ⟨by rw [← dq.out]; exact US.out⟩, bE⟩
      case measure => simp [intOf]; omega
    ·obtain rfl : k = b.attrs.length := by omega
     have hkb : decide ((b.attrs.length : Int) < (b.attrs.length : Int)) = false := by simp
     obtain ⟨Ak, ck, rfl⟩ := Kd.R_slice oR.out
     obtain ⟨kn, wb⟩ : ∃ kn, kn = jM b b.attrs.length := ⟨_, rfl⟩
     rw [← wb] at oR
     have HKN := ak wb
     rw [show (jM b b.attrs.length).length = kn.length by rw [wb]]
     clear wb
     go_wp2_with (refine fN rfl 47 (.tmp 45) rfl gX 2 rfl 57 _ (b.slots.map (Value.int .u8)) (.array 64 5) aZ.out (mf _ _ _ _ _ HL.out) Try.underlying47 rfl HLN.out ?_)
     go_loopw [10, 11, 47] (fun _ _ i W => ∃ k : Nat, k ≤ 64 ∧ i = .int .i64 k ∧ Aside0 (aX W gX (bk b.addr b.aff (uz b.slots k) (.slice A b.free.length c) (.slice A' b.attrs.length c')) 57) ∧ Aside0 (aX W gZ bu 57) ∧ Aside0 (aX W gT ((iN b.slots b.attrs.length).map (Value.int .u8)) 146) ∧ Aside0 (Kd.R lf 85 W w.heap.size (fun _ => True) (.slice Ak kn.length ck) kn) ∧ Aside0 (Below w.heap.size w W)) (fun _ _ i _ => 64 - (intOf i).toNat)
     case atStart => exact ⟨0, by omega, rfl, aZ, bT, mR, oR, an⟩
     case round =>
      clear aZ bT mR oR an
      obtain ⟨k, hk, rfl, aZ, bT, mR, oR, an⟩ := hrel
      obtain ⟨W, rfl⟩ : ∃ W : World, W = wr := ⟨_, rfl⟩
      have HLM := ak (show (uz b.slots k).length = 64 by rw [Fz]; exact HL.out)
      by_cases p8 : k < 64
      ·have hkb : decide ((k : Int) < 64) = true := by simp; omega
       have hkl : k < b.slots.length := by have := HL.out; omega
       have hms := HS.out _ (List.getElem_mem hkl)
       have hml := HLE.out _ (List.getElem_mem hkl)
       obtain ⟨m, hm⟩ : ∃ m : Nat, b.slots[k] = (m : Int) := ⟨(b.slots[k]).toNat, by omega⟩
       have sB : m < 65 := by omega
       have hix := fun w => qe b.slots HL.out k p8 w
       rw [show b.slots.getD k 0 = (m : Int) by rw [← hm]; simp [List.getD, hkl]] at hix
       have hrk := Fk b.slots b.attrs.length b.slots[k] (List.getElem_mem hkl) hms.1 hml (by omega)
       have hst := Kj b.slots k hkl
       rw [hm, Int.toNat_natCast] at hrk hst
       obtain ⟨r, hr⟩ : ∃ r, r = fZ b.slots m := ⟨_, rfl⟩
       rw [← hr] at hrk hst
       have hr2 : r < 256 := by rw [hr]; have := yQ b.slots m; omega
       have HST := ak hst
       have Hg := mR.out.cell m _ (F1 _ _ (by rw [uK]; omega))
       rw [hrk] at Hg
       have Kp := aZ.out.slot HLM.out k p8
       have Ko := aZ.out.frozen (2 + k)
       have pm : ((m : Int) < 65) = True := eq_true (by omega)
       have pk : ((k : Int) < 64) = True := eq_true (by omega)
       clear hm hrk hst hr hms hml
       go_wp2_with fail
       generalize cr : W.setCell ⟨gX, 2 + k, none⟩ (.int .u8 (r : Int)) = W1; have J : W.grownBy W1 (some gX) := (by rw [← cr]; exact bP _ _ _ _); have au := ak (aZ.out.set (2 + k) (.int .u8 (r : Int))); have cd := gm bT aU J; have jh := gx mR aZ J; have uI := gr oR aZ J; have aA := gb an cw J; rw [cr] at au; clear cr J aZ bT mR oR an Hg Kp Ko
       rw [sL _ _ _ _ _ HLM.out k p8, HST.out] at au
       go_roundw
       case rel => exact ⟨k + 1, by omega, by go_num, au, cd, jh, uI, aA⟩
       case measure => simp [intOf]; omega
      ·obtain rfl : k = 64 := by omega
       rw [show ((64 : Nat) : Int) = (64 : Int) from rfl]
       have hkb : decide ((64 : Int) < 64) = false := by decide
       have hms : uz b.slots 64 = (lP b).slots := by
        have h_ := Kk b.slots
        rwa [HL.out] at h_
       rw [hms] at aZ HLM
       have HCB := ak (show lP b = ⟨b.addr, b.aff, (lP b).slots, b.free, kn⟩ by rw [HKN.out]; rfl)
       generalize (lP b).slots = sl at aZ HLM HCB
       have Kp := aZ.out.cell 67 _ (gv _ _ _ _ _ HLM.out)
       have Ko := aZ.out.frozen 67
       clear hms
       go_wp2_with (first
        | ((with_reducible refine aJ (N := 60) rfl ?_); generalize cr : W.setCell ⟨gX, 67, none⟩ (.slice Ak kn.length ck) = W1; have J : W.grownBy W1 (some gX) := (by rw [← cr]; exact bP _ _ _ _); have au := ak (aZ.out.set 67 (.slice Ak kn.length ck)); have cd := gm bT aU J; have uI := gr oR aZ J; have aA := gb an cw J; rw [cr] at au; clear cr J aZ bT oR an Kp Ko; rw [we _ _ _ _ _ HLM.out] at au; refine aN rfl 57 (.tmp 1) rfl gX rfl _ _ _ au.out Try.underlying57 rfl 68 (by kernel_rfl) (ao _ _ _ _ _ HLM.out) ?_)
        | (refine a7 rfl 57 (.tmp 2) (.tmp 60) rfl gZ (bk b.addr b.aff sl (.slice A b.free.length c) (.slice Ak kn.length ck)) rfl rfl 57 _ cd.out 68 (by kernel_rfl) (ao _ _ _ _ _ HLM.out) rfl (cA _ _ _ _ _ rfl rfl) ?_; intro W2 aa J; have aI := gn au aU J; have de := ak (aa); have zg := gr uI cd J; have aK := gb aA ct J; clear aa J au cd uI aA))
       refine bodyPost_ret (results_cell_row rfl _ _ gZ 57 _ (0, 0) _ rfl de.out Try.underlying57 rfl (by simp only [List.size_toArray]; exact dc _ (ao _ _ _ _ _ HLM.out))) rfl ⟨_, rfl, ?_, aK.out⟩
       rw [HCB.out]
       exact ⟨HLM.out, _, _, rfl, Kd.R_below HRF.out aK.out, Kd.R_lower zg.out JP.out⟩
end Go.Proofs.Ytemhalnhbgkbcaa.V
end

