/- The law ImagePlays for every input: texts of ours, put together (part 12 of 17). No further condition. -/
import Derived.Test.YtemhalnhbgkbcaaCImagePlaysx2
import Derived.Test.YtemhalnhbgkbcaaCImagePlaysx6
import Derived.Test.YtemhalnhbgkbcaaCImagePlaysx10
import Derived.Test.YtemhalnhbgkbcaaCImagePlaysx8
import Derived.Test.YtemhalnhbgkbcaaCImagePlaysx4
import Derived.Outline
import Derived.Test.YtemhalnhbgkbcaaCImagePlaysx7
set_option linter.unusedVariables false
set_option linter.unusedSimpArgs false
open Go.RowKit Go.Proofs.YtemhalnhbgkbcaaW.PrintWords Go.Proofs.YtemhalnhbgkbcaaW.PrintLast Go.Proofs.YtemhalnhbgkbcaaW.PrintMore Go.Proofs.Ytemhalnhbgkbcaa.Z
section
namespace Go.Proofs.Ytemhalnhbgkbcaa.V
theorem e6 {fn : Func} {p p' u : Tmp} {ty ty' : TypeId} (h : fn.results = #[.cell p ty, .cell p' ty', .tmp u]) (tmps : Array Value) (P : Program) (w : World) (g g' : Nat) (t t' : TypeId) (cs cs' : List Value) (d d' : TypeDesc)
  (hp : tmps.getD p undef = .pointer (some ⟨g, 0, none⟩)) (hg : aH w g cs t)
  (hd : (match d with | .struct _ | .array _ _ => true | _ => false) = true) (hu : P.underlying ty = some d) (hi : (P.info? ty).map (·.size) = some cs.length)
  (hp' : tmps.getD p' undef = .pointer (some ⟨g', 0, none⟩)) (hg' : aH w g' cs' t')
  (hd' : (match d' with | .struct _ | .array _ _ => true | _ => false) = true) (hu' : P.underlying ty' = some d') (hi' : (P.info? ty').map (·.size) = some cs'.length) :
  (results fn tmps).run P w = .ok (.tuple #[.agg cs.toArray, .agg cs'.toArray, tmps.getD u undef]) w :=
 CS (rs := [.cell p ty, .cell p' ty', .tmp u]) h (by simp) (.cell g t cs.toArray (0, 0) d hp hg hu (by cases d <;> exact hd) (by simpa using hi) (.cell g' t' cs'.toArray (0, 0) d' hp' hg' hu' (by cases d' <;> exact hd') (by simpa using hi') (.tmp .nil)))
theorem eU.lower' {W : World} {b1 b2 : Nat} {v : Value} {b : Bk} (h : eU W b1 v b) (hb : b2 ≤ b1) : eU W b2 v b := by
 obtain ⟨vs, vf, va, rfl, h1, h2, h3⟩ := h
 exact ⟨vs, vf, va, rfl, Kd.R_lower h1 hb, Kd.R_lower h2 hb, Kd.R_lower h3 hb⟩
theorem vB (b : Bk) (M : List ln) (As Ap Am : Option Addr) (cs cp cm : Nat) (w : World) (hr : RbR w b M As cs Ap cp Am cm) (x : Int) (h0 : 0 ≤ x) (h1 : x < 4294967296) :
  Calls Try.prog 100 #[.agg (dj b.addr b.aff (.slice As b.slots.length cs) (.slice Ap b.free.length cp) (.slice Am M.length cm)).toArray, .int .u32 x] w fun e w' => e = .returned (.bool (decide (b9 x = b.addr))) ∧ Below w.heap.size w w' :=
 fM.calls _ _ _ _ _ _ _ _ _ _ _ x _ w hr.sr hr.sc hr.fr hr.fc hr.ar hr.ac (OR b M x h0 h1)
theorem rX (a : ln) (h0 : a.f0.size ≤ 9223372036854775807) (h1 : a.f1.size ≤ 9223372036854775807) (w : World) :
  Calls Try.prog 60 #[.agg #[.string a.f0, .string a.f1]] w fun e w' => e = .returned (.bool (ep (cv a))) ∧ Below w.heap.size w w' :=
 ko.calls 9223372036854775808 a.f0 a.f1 _ w (Ih a.f0 a.f1 h0 h1 _ (Nat.le_refl _))
def oQ.T1 : Bool × List (List Nat × List Nat) := (true, [([], []), ([], []), ([], []), ([2], [2]), ([0, 1, 3, 3], [0, 1, 3]), ([4], [4]), ([5], [5]), ([5], [5]), ([], []), ([8, 6, 4, 0, 1, 2, 3, 4, 5, 6, 8], [6, 8]), ([7, 9, 0, 1, 2, 3, 4, 5, 6, 7, 8, 9], [7])])
def oQ.B1 : List Nat := [0, 0, 0, 4, 15, 31, 63, 63, 0, 383, 1023]
theorem oQ.tab1 : ed .any (opsOf Try.f83 1) = oQ.T1 := by kernel_rfl
theorem oQ.bits1 : dL oQ.T1.2 oQ.B1 = true := by kernel_rfl
def uf.T3 : Bool × List (List Nat × List Nat) := (true, [([], []), ([], []), ([], []), ([2], [2]), ([3], [3]), ([4], [4]), ([5, 4, 4], [4, 5]), ([4, 6], [4, 6]), ([0, 6, 0], [0]), ([1, 8, 0, 1, 8], [1]), ([7, 9, 0, 1, 2, 3, 4, 5, 6, 7, 8, 9], [7])])
def uf.B3 : List Nat := [0, 0, 0, 4, 12, 28, 60, 124, 125, 383, 1023]
theorem uf.tab3 : ed .any (opsOf Try.f83 3) = uf.T3 := by kernel_rfl
theorem uf.bits3 : dL uf.T3.2 uf.B3 = true := by kernel_rfl
def wJ.T6 : Bool × List (List Nat × List Nat) := (true, [([], []), ([], []), ([], []), ([2], [2]), ([3], [3]), ([4], [4]), ([5, 4, 4], [4, 5]), ([4, 6], [4, 6]), ([0, 6, 0], [0]), ([1, 8, 0, 1, 8], [1]), ([7, 9, 0, 1, 2, 3, 4, 5, 6, 7, 8, 9], [7])])
def wJ.B6 : List Nat := [0, 0, 0, 4, 12, 28, 60, 124, 125, 383, 1023]
theorem wJ.tab6 : ed .any (opsOf Try.f83 6) = wJ.T6 := by kernel_rfl
theorem wJ.bits6 : dL wJ.T6.2 wJ.B6 = true := by kernel_rfl
def wI.T7 : Bool × List (List Nat × List Nat) := (true, [([], []), ([], []), ([], []), ([], []), ([1, 2, 3], [1, 2, 3]), ([], []), ([5], [5]), ([0, 4, 0], [0]), ([4, 7, 0, 1, 2, 3, 4, 7], [4]), ([6, 8, 0, 1, 2, 3, 4, 5, 6, 7, 8], [6])])
def wI.B7 : List Nat := [0, 0, 0, 0, 14, 0, 32, 31, 159, 511]
theorem wI.tab7 : ed .any (opsOf Try.f83 7) = wI.T7 := by kernel_rfl
theorem wI.bits7 : dL wI.T7.2 wI.B7 = true := by kernel_rfl
set_option maxHeartbeats 16000000 in
set_option maxRecDepth 100000 in
theorem E8 (b : Bk) (hg : RG b) (x : Int) (h0 : 0 ≤ x) (h1 : x < 4294967296) (a : ln) (eW : a.f0.size ≤ 9223372036854775807) (fA : a.f1.size ≤ 9223372036854775807) (hma : ep (cv a) = false) (v v2 : Value) (w : World) (base : Nat) (hbase : base ≤ w.heap.size) (hO : ey w base v b) (hR : eU w base v2 b) :
  Calls Try.prog 83 #[v, v2, .int .u32 x, .agg #[.string a.f0, .string a.f1]] w fun e w' => ∃ v1 v2 b', e = .returned (.tuple #[v1, v2, .bool true]) ∧ RG b' ∧ ey w' base v1 b' ∧ eU w' base v2 b' ∧ Below w.heap.size w w' := by
 obtain ⟨hl, vf, va, rfl, hf, ha⟩ := hO
 obtain ⟨vs, vp, vm, rfl, hs, hp, hm⟩ := hR
 obtain ⟨Af, cf, rfl⟩ := Kd.R_slice hf
 obtain ⟨Aa, ca, rfl⟩ := Kd.R_slice ha
 obtain ⟨As, cs, rfl⟩ := Kd.R_slice hs
 obtain ⟨Ap, cp, rfl⟩ := Kd.R_slice hp
 obtain ⟨M, hM⟩ : ∃ M, M = b.attrs.map vc := ⟨_, rfl⟩
 rw [← hM] at hm
 obtain ⟨Am, cm, rfl⟩ := Kd.R_slice hm
 have HL := ak hl
 have HM := ak hM
 have bw := ak hf
 have eh := ak ha
 have aV := ak hs
 have eo := ak hp
 have bS := ak hm
 have HG := ak hg
 have ag := ak (Below.refl w.heap.size w)
 have HBASE := ak hbase
 have HLB := ak (ch (aU b.addr b.aff b.slots (.slice Af b.free.length cf) (.slice Aa b.attrs.length ca)) (ah _ _ _ _ _ HL.out))
 have hno : (ep (cv a) && decide (b9 x = b.addr)) = false := by rw [hma]; rfl
 have e1 : qD b x (cv a) = false := by unfold qD; rw [hno, Bool.and_false]
 have e2 : sm b x (cv a) = 1 := by unfold sm; rw [if_neg (by rw [e1]; decide)]
 have e3 : nX b x (cv a) = km := by unfold nX; rw [if_neg (by rw [e1]; decide)]
 have hat := fun v w h => oT b hg.ok x h0 h1 (cv a) v w h
 rw [e2, e3] at hat
 have hnl : km.slots.length = 64 := rfl
 obtain ⟨nb, hnb⟩ : ∃ nb, nb = km := ⟨_, rfl⟩
 rw [← hnb] at hat hnl
 have HNL := ak hnl
 have HAT := ak hat
 have HNB := ak hnb
 have HMY := ak (fun w => rX a eW fA w)
 have HIN := ak (fun w h => vB b M As Ap Am cs cp cm w h x h0 h1)
 have HOF := ak (fun w h => rk b hl hg.ok.s8 (fun s hs => (hg.s0 s hs).2) M As Ap Am cs cp cm w h x h0 h1)
 rw [hma] at HMY
 clear hma hno hl hM hf ha hs hp hm hg e1 e2 e3 hat hnl hnb hbase
 go_enter Try.func83, Try.ntmps83
 go_wp2_with (first
  | (refine aD rfl 57 (.tmp 0) rfl _ rfl ?_; intro gX W1 J aa I; have cg := ge ag J; have ao := ak (ag.out.trans (I.mono ag.out.size)); have bp := mv I bw; have dk := mv I eh; have bb := mv I aV; have dg := mv I eo; have bN := mv I bS; have aj := ak (aa); clear J aa I ag bw eh aV eo bS)
  | (refine aD rfl 62 (.tmp 1) rfl _ rfl ?_; intro gY W2 J aa I; have j8 := ge ao J; have gC := ne aj J; have ay := mv I ao; have bX := mv I bp; have dG := mv I dk; have bK := mv I bb; have di := mv I dg; have cC := mv I bN; have aw := mv I aj; have cA := ak (aa); clear J aa I ao bp dk bb dg bN aj)
  | (refine aD rfl 76 (.tmp 3) rfl _ rfl ?_; intro gA W3 J aa I; have ld := ge ay J; have eO := ne aw J; have yr := ne cA J; have aE := mv I ay; have cy := mv I bX; have dU := mv I dG; have b6 := mv I bK; have dS := mv I di; have da := ak (Kd.R_mono (ok' := fun k_ => True) (Kd.R_below cC.out I) (fun _ _ => trivial)); have aC := mv I aw; have cB := mv I cA; have dm := ak (aa); clear J aa I ay bX dG bK di cC aw cA)
  | (refine au (some 8) rfl rfl 57 rfl a6 bT ?_; intro gZ W4 J aa I; have cb := ge aE J; have aG := ne aC J; have gP := ne cB J; have gD := ne dm J; have a8 := mv I aE; have cx := mv I cy; have dF := mv I dU; have cw := mv I b6; have eb := mv I dS; have cR := mv I da; have aY := mv I aC; have b5 := mv I cB; have dK := mv I dm; have bd := ak (aa); clear J aa I aE cy dU b6 dS da aC cB dm)
  | (refine au (some 9) rfl rfl 62 rfl dH (fun _ => by kernel_rfl) ?_; intro gU W5 J aa I; have fG := ge a8 J; have gR := ne aY J; have dw := ne b5 J; have yt := ne dK J; have gO := ne bd J; have bj := mv I a8; have cj := mv I cx; have cW := mv I dF; have cQ := mv I cw; have ek := mv I eb; have cH := mv I cR; have bc := mv I aY; have cY := mv I b5; have eZ := mv I dK; have bI := mv I bd; have eV := ak (aa); clear J aa I a8 cx dF cw eb cR aY b5 dK bd))
 have al : Below W5.heap.size W5 W5.drew := br (Below.refl _ _)
 have bO := mv al bj; have cU := mv al cj; have dt := mv al cW; have cZ := mv al cQ; have er := mv al ek; have dE := mv al cH; have bl := mv al bc; have dh := mv al cY; have fK := mv al eZ; have bW := mv al bI; have eg := mv al eV
 clear al bj cj cW cQ ek cH bc cY eZ bI eV
 have hB := bO
 have hF := cU
 have hG := dt
 have hS := cZ
 have hP := er
 have hM := dE
 have hX := bl
 have hY := dh
 have hA := fK
 have hZ := bW
 have hU := eg
 clear bO cU dt cZ er dE bl dh fK bW eg
 refine dd (n := 11) (S := fun w' => aH w' gX (aU b.addr b.aff b.slots (.slice Af b.free.length cf) (.slice Aa b.attrs.length ca)) 57 ∧ aH w' gA [.string a.f0, .string a.f1] 76) (ds := []) #[false, false, false, false, false, false, false, false, false, false, false] (by kernel_rfl) rfl rfl ⟨hX.out, hA.out⟩ (fun hHeld => ?_); refine bQ oQ.tab1 oQ.bits1 (fun ae bA => ?_)
 refine tk 0 ae.out bA.out hHeld ?_ (hv := by exact fun _ aZ => aQ 57 (.tmp 4) rfl gX rfl _ _ _ aZ.1 Try.underlying57 rfl HLB.out)
 refine pu 1 ae.out ?_
 refine tk 2 ae.out bA.out hHeld ?_ (hv := by exact fun _ aZ => aQ 76 (.tmp 7) rfl gA rfl _ _ _ aZ.2 Try.underlying76 rfl (by kernel_rfl))
 refine qS (σ := Nat × Value) 2 #[true, true, true, true, true, true, true, true, true, false, false] (fun s => [(19, eT (cv a)), (20, .tuple #[s.2, .int .i64 1]), (15, .tuple #[s.2, .int .i64 1]), (21, s.2), (22, .int .i64 1), (11, .pointer (some ⟨s.1, 0, none⟩))]) (fun s w' => Aside0 (Below w.heap.size w w') ∧ Aside0 (Kd.R (Kd.int .u8) 5 w' base (fun _ => True) (.slice Af b.free.length cf) b.free) ∧ Aside0 (Kd.R ju 85 w' base (fun _ => True) (.slice Aa b.attrs.length ca) b.attrs) ∧ Aside0 (Kd.R (Kd.int .i64) 3 w' base (fun _ => True) (.slice As b.slots.length cs) b.slots) ∧ Aside0 (Kd.R (Kd.int .i64) 3 w' base (fun _ => True) (.slice Ap b.free.length cp) b.free) ∧ Aside0 (Kd.R ib 76 w' base (fun _ => True) (.slice Am M.length cm) M) ∧ Aside0 (aH w' gX (aU b.addr b.aff b.slots (.slice Af b.free.length cf) (.slice Aa b.attrs.length ca)) 57) ∧ Aside0 (aH w' gY (dj b.addr b.aff (.slice As b.slots.length cs) (.slice Ap b.free.length cp) (.slice Am M.length cm)) 62) ∧ Aside0 (aH w' gA [.string a.f0, .string a.f1] 76) ∧ Aside0 (aH w' gZ a6 57) ∧ Aside0 (aH w' gU dH 62) ∧ Aside0 (aH w' s.1 a6 57) ∧ Aside0 (w.heap.size ≤ s.1) ∧ Aside0 (gX ≠ s.1) ∧ Aside0 (gZ ≠ s.1) ∧ Aside0 (ey w' base s.2 nb)) ?_ ?_
 rotate_left
 ·intro eF
  refine tw 3 8 ae.out (fun K hK => ?_) (fun K hK => ?_)
  ·skip
   refine gs Try.func50 #[.agg #[.string a.f0, .string a.f1]] (kX a _) ?_
   rintro e V3 ⟨rfl, I⟩
   refine ⟨_, rfl, ?_⟩
   (try replace hV := mv I hV); (try replace hQ := mv I hQ); replace hB := mv I hB; replace hF := mv I hF; replace hG := mv I hG; replace hS := mv I hS; replace hP := mv I hP; replace hM := mv I hM; replace hX := mv I hX; replace hY := mv I hY; replace hA := mv I hA; replace hZ := mv I hZ; replace hU := mv I hU; clear  I
   refine kn hK ⟨hX.out, hA.out⟩ (fun hHeld => ?_)
   clear hK K
   refine tw 4 8 ae.out (fun K hK => ?_) (fun K hK => ?_)
   ·skip
    refine gs Try.func51 #[.agg (aU b.addr b.aff b.slots (.slice Af b.free.length cf) (.slice Aa b.attrs.length ca)).toArray, .int .u32 x, eT (cv a)] (HAT.out _ _ ⟨_, _, _, _, rfl, ⟨HL.out, (rr hF).1, (rr hF).2, (rr hG).1, (rr hG).2⟩⟩) ?_
    rintro e V4 ⟨v_, rfl, aW, I⟩
    refine ⟨_, rfl, ?_⟩
    have hV := ak (aW.lower (lb HBASE hB)); (try replace hQ := mv I hQ); replace hB := mv I hB; replace hF := mv I hF; replace hG := mv I hG; replace hS := mv I hS; replace hP := mv I hP; replace hM := mv I hM; replace hX := mv I hX; replace hY := mv I hY; replace hA := mv I hA; replace hZ := mv I hZ; replace hU := mv I hU; clear aW I
    refine kn hK ⟨hX.out, hA.out⟩ (fun hHeld => ?_)
    clear hK K
    refine pu 5 ae.out ?_
    refine pu 6 ae.out ?_
    refine pu 7 ae.out ?_
    refine on 8 ae.out (fun K hK => ?_)
    refine dO (by rfl) 57 rfl a6 bT ?_
    intro gQ V8 J aa I
    have cE := ge hB J
    have bk := ne hX J
    have a7 := ne hZ J
    (try replace hV := mv I hV)
    replace hB := mv I hB
    replace hF := mv I hF
    replace hG := mv I hG
    replace hS := mv I hS
    replace hP := mv I hP
    replace hM := mv I hM
    replace hX := mv I hX
    replace hY := mv I hY
    replace hA := mv I hA
    replace hZ := mv I hZ
    replace hU := mv I hU
    have hQ := ak aa
    clear J aa I
    refine kn hK ⟨hX.out, hA.out⟩ (fun hHeld => ?_)
    clear hK K
    exact nc (eF ⟨gQ, v_⟩ _ ⟨hB, hF, hG, hS, hP, hM, hX, hY, hA, hZ, hU, hQ, cE, bk, a7, hV⟩)
   ·skip
    refine dO (by rfl) 57 rfl a6 bT ?_
    intro gQ V8 J aa I
    have cE := ge hB J
    have bk := ne hX J
    have a7 := ne hZ J
    (try replace hV := mv I hV)
    replace hB := mv I hB
    replace hF := mv I hF
    replace hG := mv I hG
    replace hS := mv I hS
    replace hP := mv I hP
    replace hM := mv I hM
    replace hX := mv I hX
    replace hY := mv I hY
    replace hA := mv I hA
    replace hZ := mv I hZ
    replace hU := mv I hU
    have hQ := ak aa
    clear J aa I
    refine kn hK ⟨hX.out, hA.out⟩ (fun hHeld => ?_)
    clear hK K
    refine on 4 ae.out (fun K hK => ?_)
    refine gs Try.func51 #[.agg (aU b.addr b.aff b.slots (.slice Af b.free.length cf) (.slice Aa b.attrs.length ca)).toArray, .int .u32 x, eT (cv a)] (HAT.out _ _ ⟨_, _, _, _, rfl, ⟨HL.out, (rr hF).1, (rr hF).2, (rr hG).1, (rr hG).2⟩⟩) ?_
    rintro e V4 ⟨v_, rfl, aW, I⟩
    refine ⟨_, rfl, ?_⟩
    have hV := ak (aW.lower (lb HBASE hB)); (try replace hQ := mv I hQ); replace hB := mv I hB; replace hF := mv I hF; replace hG := mv I hG; replace hS := mv I hS; replace hP := mv I hP; replace hM := mv I hM; replace hX := mv I hX; replace hY := mv I hY; replace hA := mv I hA; replace hZ := mv I hZ; replace hU := mv I hU; clear aW I
    refine kn hK ⟨hX.out, hA.out⟩ (fun hHeld => ?_)
    clear hK K
    refine pu 5 ae.out ?_
    refine pu 6 ae.out ?_
    refine pu 7 ae.out ?_
    exact nc (eF ⟨gQ, v_⟩ _ ⟨hB, hF, hG, hS, hP, hM, hX, hY, hA, hZ, hU, hQ, cE, bk, a7, hV⟩)
  ·skip
   refine dO (by rfl) 57 rfl a6 bT ?_
   intro gQ V8 J aa I
   have cE := ge hB J
   have bk := ne hX J
   have a7 := ne hZ J
   (try replace hV := mv I hV)
   replace hB := mv I hB
   replace hF := mv I hF
   replace hG := mv I hG
   replace hS := mv I hS
   replace hP := mv I hP
   replace hM := mv I hM
   replace hX := mv I hX
   replace hY := mv I hY
   replace hA := mv I hA
   replace hZ := mv I hZ
   replace hU := mv I hU
   have hQ := ak aa
   clear J aa I
   refine kn hK ⟨hX.out, hA.out⟩ (fun hHeld => ?_)
   clear hK K
   refine on 3 ae.out (fun K hK => ?_)
   refine gs Try.func50 #[.agg #[.string a.f0, .string a.f1]] (kX a _) ?_
   rintro e V3 ⟨rfl, I⟩
   refine ⟨_, rfl, ?_⟩
   (try replace hV := mv I hV); (try replace hQ := mv I hQ); replace hB := mv I hB; replace hF := mv I hF; replace hG := mv I hG; replace hS := mv I hS; replace hP := mv I hP; replace hM := mv I hM; replace hX := mv I hX; replace hY := mv I hY; replace hA := mv I hA; replace hZ := mv I hZ; replace hU := mv I hU; clear  I
   refine kn hK ⟨hX.out, hA.out⟩ (fun hHeld => ?_)
   clear hK K
   refine on 4 ae.out (fun K hK => ?_)
   refine gs Try.func51 #[.agg (aU b.addr b.aff b.slots (.slice Af b.free.length cf) (.slice Aa b.attrs.length ca)).toArray, .int .u32 x, eT (cv a)] (HAT.out _ _ ⟨_, _, _, _, rfl, ⟨HL.out, (rr hF).1, (rr hF).2, (rr hG).1, (rr hG).2⟩⟩) ?_
   rintro e V4 ⟨v_, rfl, aW, I⟩
   refine ⟨_, rfl, ?_⟩
   have hV := ak (aW.lower (lb HBASE hB)); (try replace hQ := mv I hQ); replace hB := mv I hB; replace hF := mv I hF; replace hG := mv I hG; replace hS := mv I hS; replace hP := mv I hP; replace hM := mv I hM; replace hX := mv I hX; replace hY := mv I hY; replace hA := mv I hA; replace hZ := mv I hZ; replace hU := mv I hU; clear aW I
   refine kn hK ⟨hX.out, hA.out⟩ (fun hHeld => ?_)
   clear hK K
   refine pu 5 ae.out ?_
   refine pu 6 ae.out ?_
   refine pu 7 ae.out ?_
   exact nc (eF ⟨gQ, v_⟩ _ ⟨hB, hF, hG, hS, hP, hM, hX, hY, hA, hZ, hU, hQ, cE, bk, a7, hV⟩)
 intro s w' hFF; obtain ⟨gQ, v_⟩ := s; simp only at hFF; obtain ⟨hB, hF, hG, hS, hP, hM, hX, hY, hA, hZ, hU, hQ, cE, bk, a7, hV⟩ := hFF; have aW := hV.out; obtain ⟨kS, sw, sy, rfl, dQ, eE⟩ := aW; obtain ⟨A8, c8, rfl⟩ := Kd.R_slice dQ; obtain ⟨A9, c9, rfl⟩ := Kd.R_slice eE; have hC := ak dQ; have hD := ak eE; clear hV kS dQ eE
 refine nj ?_
 refine ow 9 ae.out (fun K hK => ?_)
 refine bJ (by rfl) rfl 57 (.tmp 11) (.tmp 21) rfl gQ (aU nb.addr nb.aff nb.slots (.slice A8 nb.free.length c8) (.slice A9 nb.attrs.length c9)) rfl rfl 57 _ hQ.out 68 (by kernel_rfl) (ah _ _ _ _ _ HNL.out) rfl (b7 _ _ _ _ _ rfl rfl) ?_
 intro V9 aa J; replace hB := gb hB cE J; replace hF := gr hF hQ J; replace hG := gr hG hQ J; replace hS := gr hS hQ J; replace hP := gr hP hQ J; replace hM := gr hM hQ J; replace hX := gn hX bk J; replace hY := gx hY hQ J; replace hA := gx hA hQ J; replace hZ := gn hZ a7 J; replace hU := gx hU hQ J; replace hC := gr hC hQ J; replace hD := gr hD hQ J; replace hQ := ak (aa); clear aa J
 refine hK.out _ _ ⟨hX.out, hA.out⟩ (fun hHeld => ?_)
 clear hK K
 refine pu 10 ae.out ?_
 refine dn ae.out ?_
 clear hHeld
 have HLN := ak (ch (aU nb.addr nb.aff nb.slots (.slice A8 nb.free.length c8) (.slice A9 nb.attrs.length c9)) (ah _ _ _ _ _ HNL.out))
 have HZR := ak (fun v w h => pO v w (by rw [← HNB.out]; exact h))
 go_wp2_with (first
  | ((with_reducible refine av (N := 23) rfl ?_); refine az rfl 76 (.tmp 7) rfl gA rfl _ _ _ hA.out Try.underlying76 rfl 2 (by kernel_rfl) rfl ?_)
  | (go_at_call 60; refine (HMY.out _).mono ?_; rintro e so ⟨rfl, I⟩; have iZ := mv I hB; have jF := mv I hF; have jD := mv I hG; have iB := mv I hS; have iC := mv I hP; have iD := mv I hM; have jz := mv I hX; have iA := mv I hY; have pF := mv I hA; have jy := mv I hZ; have jA := mv I hU; have jB := mv I hQ; have jJ := mv I hC; have jH := mv I hD; clear I hB hF hG hS hP hM hX hY hA hZ hU hQ hC hD))
 have al : Below so.heap.size so so.drew := br (Below.refl _ _)
 have jn := mv al iZ; have jE := mv al jF; have jC := mv al jD; have iW := mv al iB; have iX := mv al iC; have iY := mv al iD; have ji := mv al jz; have iJ := mv al iA; have pE := mv al pF; have jh := mv al jy; have jl := mv al jA; have jm := mv al jB; have jI := mv al jJ; have jG := mv al jH
 clear al iZ jF jD iB iC iD jz iA pF jy jA jB jJ jH
 have hB := jn
 have hF := jE
 have hG := jC
 have hS := iW
 have hP := iX
 have hM := iY
 have hX := ji
 have hY := iJ
 have hA := pE
 have hZ := jh
 have hU := jl
 have hQ := jm
 have hC := jI
 have hD := jG
 clear jn jE jC iW iX iY ji iJ pE jh jl jm jI jG
 refine dd (n := 11) (S := fun w' => aH w' gX (aU b.addr b.aff b.slots (.slice Af b.free.length cf) (.slice Aa b.attrs.length ca)) 57 ∧ aH w' gY (dj b.addr b.aff (.slice As b.slots.length cs) (.slice Ap b.free.length cp) (.slice Am M.length cm)) 62 ∧ aH w' gQ (aU nb.addr nb.aff nb.slots (.slice A8 nb.free.length c8) (.slice A9 nb.attrs.length c9)) 57) (ds := []) #[false, false, false, false, false, false, false, false, false, false, false] (by kernel_rfl) rfl rfl ⟨hX.out, hY.out, hQ.out⟩ (fun hHeld => ?_); refine bQ uf.tab3 uf.bits3 (fun ae bA => ?_)
 refine tk 0 ae.out bA.out hHeld ?_ (hv := by exact fun _ aZ => aQ 57 (.tmp 4) rfl gX rfl _ _ _ aZ.1 Try.underlying57 rfl HLB.out)
 refine tk 1 ae.out bA.out hHeld ?_ (hv := by exact fun _ aZ => aQ 62 (.tmp 5) rfl gY rfl _ _ _ aZ.2.1 Try.underlying62 rfl (by kernel_rfl))
 refine pu 2 ae.out ?_
 refine pu 3 ae.out ?_
 refine pu 4 ae.out ?_
 refine tk 5 ae.out bA.out hHeld ?_ (hv := by exact fun _ aZ => aQ 57 (.tmp 11) rfl gQ rfl _ _ _ aZ.2.2 Try.underlying57 rfl HLN.out)
 refine on 6 ae.out (fun K hK => ?_)
 refine gs Try.func43 #[.agg (aU nb.addr nb.aff nb.slots (.slice A8 nb.free.length c8) (.slice A9 nb.attrs.length c9)).toArray] (HZR.out _ _ ⟨_, _, _, _, rfl, ⟨HNL.out, (rr hC).1, (rr hC).2, (rr hD).1, (rr hD).2⟩⟩) ?_
 rintro e V6 ⟨rfl, I⟩
 refine ⟨_, rfl, ?_⟩
 replace hB := mv I hB; replace hF := mv I hF; replace hG := mv I hG; replace hS := mv I hS; replace hP := mv I hP; replace hM := mv I hM; replace hX := mv I hX; replace hY := mv I hY; replace hA := mv I hA; replace hZ := mv I hZ; replace hU := mv I hU; replace hQ := mv I hQ; replace hC := mv I hC; replace hD := mv I hD
 refine kn hK ⟨hX.out, hY.out, hQ.out⟩ (fun hHeld => ?_)
 clear hK K
 refine pu 7 ae.out ?_
 refine ow 8 ae.out (fun K hK => ?_)
 refine bJ (by rfl) rfl 57 (.tmp 8) (.tmp 32) rfl gZ (aU b.addr b.aff b.slots (.slice Af b.free.length cf) (.slice Aa b.attrs.length ca)) rfl rfl 57 _ hZ.out 68 (by kernel_rfl) (ah _ _ _ _ _ HL.out) rfl (b7 _ _ _ _ _ rfl rfl) ?_
 intro V8 aa J; replace hB := gb hB cb J; replace hF := gr hF hZ J; replace hG := gr hG hZ J; replace hS := gr hS hZ J; replace hP := gr hP hZ J; replace hM := gr hM hZ J; replace hX := gn hX aG J; replace hY := gx hY hZ J; replace hA := gx hA hZ J; replace hU := gx hU hZ J; replace hQ := gm hQ a7 J; replace hC := gr hC hZ J; replace hD := gr hD hZ J; replace hZ := ak (aa); clear aa J
 refine hK.out _ _ ⟨hX.out, hY.out, hQ.out⟩ (fun hHeld => ?_)
 clear hK K
 refine ow 9 ae.out (fun K hK => ?_)
 refine bJ (by rfl) rfl 62 (.tmp 9) (.tmp 33) rfl gU (dj b.addr b.aff (.slice As b.slots.length cs) (.slice Ap b.free.length cp) (.slice Am M.length cm)) rfl rfl 62 _ hU.out 5 (by kernel_rfl) rfl rfl (dM _ _ rfl rfl rfl) ?_
 intro V9 aa J; replace hB := gb hB fG J; replace hF := gr hF hU J; replace hG := gr hG hU J; replace hS := gr hS hU J; replace hP := gr hP hU J; replace hM := gr hM hU J; replace hX := gx hX hU J; replace hY := gn hY dw J; replace hA := gx hA hU J; replace hZ := gx hZ hU J; replace hQ := gx hQ hU J; replace hC := gr hC hU J; replace hD := gr hD hU J; replace hU := ak (aa); clear aa J
 refine hK.out _ _ ⟨hX.out, hY.out, hQ.out⟩ (fun hHeld => ?_)
 clear hK K
 refine pu 10 ae.out ?_
 refine dn ae.out ?_
 clear hHeld
 go_wp2_with fail
 refine bodyPost_ret (e6 rfl _ _ _ gZ gU 57 62 _ _ _ _ rfl hZ.out rfl Try.underlying57 (by first | exact HLB.out | exact HLN.out) rfl hU.out rfl Try.underlying62 (by kernel_rfl)) rfl ⟨_, _, b, rfl, ?_, ?_, ?_, hB.out⟩
 ·exact HG.out
 ·exact ⟨HL.out, _, _, rfl, hF.out, hG.out⟩
 ·exact ⟨_, _, _, rfl, hS.out, hP.out, by rw [← HM.out]; exact hM.out⟩
set_option maxHeartbeats 16000000 in
set_option maxRecDepth 100000 in
theorem E7 (b : Bk) (hg : RG b) (x : Int) (h0 : 0 ≤ x) (h1 : x < 4294967296) (a : ln) (eW : a.f0.size ≤ 9223372036854775807) (fA : a.f1.size ≤ 9223372036854775807) (hma : ep (cv a) = true) (hin : b9 x ≠ b.addr) (v v2 : Value) (w : World) (base : Nat) (hbase : base ≤ w.heap.size) (hO : ey w base v b) (hR : eU w base v2 b) :
  Calls Try.prog 83 #[v, v2, .int .u32 x, .agg #[.string a.f0, .string a.f1]] w fun e w' => ∃ v1 v2 b', e = .returned (.tuple #[v1, v2, .bool true]) ∧ RG b' ∧ ey w' base v1 b' ∧ eU w' base v2 b' ∧ Below w.heap.size w w' := by
 obtain ⟨hl, vf, va, rfl, hf, ha⟩ := hO
 obtain ⟨vs, vp, vm, rfl, hs, hp, hm⟩ := hR
 obtain ⟨Af, cf, rfl⟩ := Kd.R_slice hf
 obtain ⟨Aa, ca, rfl⟩ := Kd.R_slice ha
 obtain ⟨As, cs, rfl⟩ := Kd.R_slice hs
 obtain ⟨Ap, cp, rfl⟩ := Kd.R_slice hp
 obtain ⟨M, hM⟩ : ∃ M, M = b.attrs.map vc := ⟨_, rfl⟩
 rw [← hM] at hm
 obtain ⟨Am, cm, rfl⟩ := Kd.R_slice hm
 have HL := ak hl
 have HM := ak hM
 have bw := ak hf
 have eh := ak ha
 have aV := ak hs
 have eo := ak hp
 have bS := ak hm
 have HG := ak hg
 have ag := ak (Below.refl w.heap.size w)
 have HBASE := ak hbase
 have HLB := ak (ch (aU b.addr b.aff b.slots (.slice Af b.free.length cf) (.slice Aa b.attrs.length ca)) (ah _ _ _ _ _ HL.out))
 have hno : (ep (cv a) && decide (b9 x = b.addr)) = false := by rw [decide_eq_false hin, Bool.and_false]
 have e1 : qD b x (cv a) = false := by unfold qD; rw [hno, Bool.and_false]
 have e2 : sm b x (cv a) = 1 := by unfold sm; rw [if_neg (by rw [e1]; decide)]
 have e3 : nX b x (cv a) = km := by unfold nX; rw [if_neg (by rw [e1]; decide)]
 have hat := fun v w h => oT b hg.ok x h0 h1 (cv a) v w h
 rw [e2, e3] at hat
 have hnl : km.slots.length = 64 := rfl
 obtain ⟨nb, hnb⟩ : ∃ nb, nb = km := ⟨_, rfl⟩
 rw [← hnb] at hat hnl
 have HNL := ak hnl
 have HAT := ak hat
 have HNB := ak hnb
 have HMY := ak (fun w => rX a eW fA w)
 have HIN := ak (fun w h => vB b M As Ap Am cs cp cm w h x h0 h1)
 have HOF := ak (fun w h => rk b hl hg.ok.s8 (fun s hs => (hg.s0 s hs).2) M As Ap Am cs cp cm w h x h0 h1)
 rw [hma] at HMY
 rw [decide_eq_false hin] at HIN
 clear hma hno hin hl hM hf ha hs hp hm hg e1 e2 e3 hat hnl hnb hbase
 go_enter Try.func83, Try.ntmps83
 go_wp2_with (first
  | (refine aD rfl 57 (.tmp 0) rfl _ rfl ?_; intro gX W1 J aa I; have cg := ge ag J; have ao := ak (ag.out.trans (I.mono ag.out.size)); have bp := mv I bw; have dk := mv I eh; have bb := mv I aV; have dg := mv I eo; have bN := mv I bS; have aj := ak (aa); clear J aa I ag bw eh aV eo bS)
  | (refine aD rfl 62 (.tmp 1) rfl _ rfl ?_; intro gY W2 J aa I; have j8 := ge ao J; have gC := ne aj J; have ay := mv I ao; have bX := mv I bp; have dG := mv I dk; have bK := mv I bb; have di := mv I dg; have cC := mv I bN; have aw := mv I aj; have cA := ak (aa); clear J aa I ao bp dk bb dg bN aj)
  | (refine aD rfl 76 (.tmp 3) rfl _ rfl ?_; intro gA W3 J aa I; have ld := ge ay J; have eO := ne aw J; have yr := ne cA J; have aE := mv I ay; have cy := mv I bX; have dU := mv I dG; have b6 := mv I bK; have dS := mv I di; have da := ak (Kd.R_mono (ok' := fun k_ => True) (Kd.R_below cC.out I) (fun _ _ => trivial)); have aC := mv I aw; have cB := mv I cA; have dm := ak (aa); clear J aa I ay bX dG bK di cC aw cA)
  | (refine au (some 8) rfl rfl 57 rfl a6 bT ?_; intro gZ W4 J aa I; have cb := ge aE J; have aG := ne aC J; have gP := ne cB J; have gD := ne dm J; have a8 := mv I aE; have cx := mv I cy; have dF := mv I dU; have cw := mv I b6; have eb := mv I dS; have cR := mv I da; have aY := mv I aC; have b5 := mv I cB; have dK := mv I dm; have bd := ak (aa); clear J aa I aE cy dU b6 dS da aC cB dm)
  | (refine au (some 9) rfl rfl 62 rfl dH (fun _ => by kernel_rfl) ?_; intro gU W5 J aa I; have fG := ge a8 J; have gR := ne aY J; have dw := ne b5 J; have yt := ne dK J; have gO := ne bd J; have bj := mv I a8; have cj := mv I cx; have cW := mv I dF; have cQ := mv I cw; have ek := mv I eb; have cH := mv I cR; have bc := mv I aY; have cY := mv I b5; have eZ := mv I dK; have bI := mv I bd; have eV := ak (aa); clear J aa I a8 cx dF cw eb cR aY b5 dK bd))
 have al : Below W5.heap.size W5 W5.drew := br (Below.refl _ _)
 have bO := mv al bj; have cU := mv al cj; have dt := mv al cW; have cZ := mv al cQ; have er := mv al ek; have dE := mv al cH; have bl := mv al bc; have dh := mv al cY; have fK := mv al eZ; have bW := mv al bI; have eg := mv al eV
 clear al bj cj cW cQ ek cH bc cY eZ bI eV
 have hB := bO
 have hF := cU
 have hG := dt
 have hS := cZ
 have hP := er
 have hM := dE
 have hX := bl
 have hY := dh
 have hA := fK
 have hZ := bW
 have hU := eg
 clear bO cU dt cZ er dE bl dh fK bW eg
 refine dd (n := 11) (S := fun w' => aH w' gX (aU b.addr b.aff b.slots (.slice Af b.free.length cf) (.slice Aa b.attrs.length ca)) 57 ∧ aH w' gA [.string a.f0, .string a.f1] 76) (ds := []) #[false, false, false, false, false, false, false, false, false, false, false] (by kernel_rfl) rfl rfl ⟨hX.out, hA.out⟩ (fun hHeld => ?_); refine bQ oQ.tab1 oQ.bits1 (fun ae bA => ?_)
 refine tk 0 ae.out bA.out hHeld ?_ (hv := by exact fun _ aZ => aQ 57 (.tmp 4) rfl gX rfl _ _ _ aZ.1 Try.underlying57 rfl HLB.out)
 refine pu 1 ae.out ?_
 refine tk 2 ae.out bA.out hHeld ?_ (hv := by exact fun _ aZ => aQ 76 (.tmp 7) rfl gA rfl _ _ _ aZ.2 Try.underlying76 rfl (by kernel_rfl))
 refine qS (σ := Nat × Value) 2 #[true, true, true, true, true, true, true, true, true, false, false] (fun s => [(19, eT (cv a)), (20, .tuple #[s.2, .int .i64 1]), (15, .tuple #[s.2, .int .i64 1]), (21, s.2), (22, .int .i64 1), (11, .pointer (some ⟨s.1, 0, none⟩))]) (fun s w' => Aside0 (Below w.heap.size w w') ∧ Aside0 (Kd.R (Kd.int .u8) 5 w' base (fun _ => True) (.slice Af b.free.length cf) b.free) ∧ Aside0 (Kd.R ju 85 w' base (fun _ => True) (.slice Aa b.attrs.length ca) b.attrs) ∧ Aside0 (Kd.R (Kd.int .i64) 3 w' base (fun _ => True) (.slice As b.slots.length cs) b.slots) ∧ Aside0 (Kd.R (Kd.int .i64) 3 w' base (fun _ => True) (.slice Ap b.free.length cp) b.free) ∧ Aside0 (Kd.R ib 76 w' base (fun _ => True) (.slice Am M.length cm) M) ∧ Aside0 (aH w' gX (aU b.addr b.aff b.slots (.slice Af b.free.length cf) (.slice Aa b.attrs.length ca)) 57) ∧ Aside0 (aH w' gY (dj b.addr b.aff (.slice As b.slots.length cs) (.slice Ap b.free.length cp) (.slice Am M.length cm)) 62) ∧ Aside0 (aH w' gA [.string a.f0, .string a.f1] 76) ∧ Aside0 (aH w' gZ a6 57) ∧ Aside0 (aH w' gU dH 62) ∧ Aside0 (aH w' s.1 a6 57) ∧ Aside0 (w.heap.size ≤ s.1) ∧ Aside0 (gX ≠ s.1) ∧ Aside0 (gZ ≠ s.1) ∧ Aside0 (ey w' base s.2 nb)) ?_ ?_
 rotate_left
 ·intro eF
  refine tw 3 8 ae.out (fun K hK => ?_) (fun K hK => ?_)
  ·skip
   refine gs Try.func50 #[.agg #[.string a.f0, .string a.f1]] (kX a _) ?_
   rintro e V3 ⟨rfl, I⟩
   refine ⟨_, rfl, ?_⟩
   (try replace hV := mv I hV); (try replace hQ := mv I hQ); replace hB := mv I hB; replace hF := mv I hF; replace hG := mv I hG; replace hS := mv I hS; replace hP := mv I hP; replace hM := mv I hM; replace hX := mv I hX; replace hY := mv I hY; replace hA := mv I hA; replace hZ := mv I hZ; replace hU := mv I hU; clear  I
   refine kn hK ⟨hX.out, hA.out⟩ (fun hHeld => ?_)
   clear hK K
   refine tw 4 8 ae.out (fun K hK => ?_) (fun K hK => ?_)
   ·skip
    refine gs Try.func51 #[.agg (aU b.addr b.aff b.slots (.slice Af b.free.length cf) (.slice Aa b.attrs.length ca)).toArray, .int .u32 x, eT (cv a)] (HAT.out _ _ ⟨_, _, _, _, rfl, ⟨HL.out, (rr hF).1, (rr hF).2, (rr hG).1, (rr hG).2⟩⟩) ?_
    rintro e V4 ⟨v_, rfl, aW, I⟩
    refine ⟨_, rfl, ?_⟩
    have hV := ak (aW.lower (lb HBASE hB)); (try replace hQ := mv I hQ); replace hB := mv I hB; replace hF := mv I hF; replace hG := mv I hG; replace hS := mv I hS; replace hP := mv I hP; replace hM := mv I hM; replace hX := mv I hX; replace hY := mv I hY; replace hA := mv I hA; replace hZ := mv I hZ; replace hU := mv I hU; clear aW I
    refine kn hK ⟨hX.out, hA.out⟩ (fun hHeld => ?_)
    clear hK K
    refine pu 5 ae.out ?_
    refine pu 6 ae.out ?_
    refine pu 7 ae.out ?_
    refine on 8 ae.out (fun K hK => ?_)
    refine dO (by rfl) 57 rfl a6 bT ?_
    intro gQ V8 J aa I
    have cE := ge hB J
    have bk := ne hX J
    have a7 := ne hZ J
    (try replace hV := mv I hV)
    replace hB := mv I hB
    replace hF := mv I hF
    replace hG := mv I hG
    replace hS := mv I hS
    replace hP := mv I hP
    replace hM := mv I hM
    replace hX := mv I hX
    replace hY := mv I hY
    replace hA := mv I hA
    replace hZ := mv I hZ
    replace hU := mv I hU
    have hQ := ak aa
    clear J aa I
    refine kn hK ⟨hX.out, hA.out⟩ (fun hHeld => ?_)
    clear hK K
    exact nc (eF ⟨gQ, v_⟩ _ ⟨hB, hF, hG, hS, hP, hM, hX, hY, hA, hZ, hU, hQ, cE, bk, a7, hV⟩)
   ·skip
    refine dO (by rfl) 57 rfl a6 bT ?_
    intro gQ V8 J aa I
    have cE := ge hB J
    have bk := ne hX J
    have a7 := ne hZ J
    (try replace hV := mv I hV)
    replace hB := mv I hB
    replace hF := mv I hF
    replace hG := mv I hG
    replace hS := mv I hS
    replace hP := mv I hP
    replace hM := mv I hM
    replace hX := mv I hX
    replace hY := mv I hY
    replace hA := mv I hA
    replace hZ := mv I hZ
    replace hU := mv I hU
    have hQ := ak aa
    clear J aa I
    refine kn hK ⟨hX.out, hA.out⟩ (fun hHeld => ?_)
    clear hK K
    refine on 4 ae.out (fun K hK => ?_)
    refine gs Try.func51 #[.agg (aU b.addr b.aff b.slots (.slice Af b.free.length cf) (.slice Aa b.attrs.length ca)).toArray, .int .u32 x, eT (cv a)] (HAT.out _ _ ⟨_, _, _, _, rfl, ⟨HL.out, (rr hF).1, (rr hF).2, (rr hG).1, (rr hG).2⟩⟩) ?_
    rintro e V4 ⟨v_, rfl, aW, I⟩
    refine ⟨_, rfl, ?_⟩
    have hV := ak (aW.lower (lb HBASE hB)); (try replace hQ := mv I hQ); replace hB := mv I hB; replace hF := mv I hF; replace hG := mv I hG; replace hS := mv I hS; replace hP := mv I hP; replace hM := mv I hM; replace hX := mv I hX; replace hY := mv I hY; replace hA := mv I hA; replace hZ := mv I hZ; replace hU := mv I hU; clear aW I
    refine kn hK ⟨hX.out, hA.out⟩ (fun hHeld => ?_)
    clear hK K
    refine pu 5 ae.out ?_
    refine pu 6 ae.out ?_
    refine pu 7 ae.out ?_
    exact nc (eF ⟨gQ, v_⟩ _ ⟨hB, hF, hG, hS, hP, hM, hX, hY, hA, hZ, hU, hQ, cE, bk, a7, hV⟩)
  ·skip
   refine dO (by rfl) 57 rfl a6 bT ?_
   intro gQ V8 J aa I
   have cE := ge hB J
   have bk := ne hX J
   have a7 := ne hZ J
   (try replace hV := mv I hV)
   replace hB := mv I hB
   replace hF := mv I hF
   replace hG := mv I hG
   replace hS := mv I hS
   replace hP := mv I hP
   replace hM := mv I hM
   replace hX := mv I hX
   replace hY := mv I hY
   replace hA := mv I hA
   replace hZ := mv I hZ
   replace hU := mv I hU
   have hQ := ak aa
   clear J aa I
   refine kn hK ⟨hX.out, hA.out⟩ (fun hHeld => ?_)
   clear hK K
   refine on 3 ae.out (fun K hK => ?_)
   refine gs Try.func50 #[.agg #[.string a.f0, .string a.f1]] (kX a _) ?_
   rintro e V3 ⟨rfl, I⟩
   refine ⟨_, rfl, ?_⟩
   (try replace hV := mv I hV); (try replace hQ := mv I hQ); replace hB := mv I hB; replace hF := mv I hF; replace hG := mv I hG; replace hS := mv I hS; replace hP := mv I hP; replace hM := mv I hM; replace hX := mv I hX; replace hY := mv I hY; replace hA := mv I hA; replace hZ := mv I hZ; replace hU := mv I hU; clear  I
   refine kn hK ⟨hX.out, hA.out⟩ (fun hHeld => ?_)
   clear hK K
   refine on 4 ae.out (fun K hK => ?_)
   refine gs Try.func51 #[.agg (aU b.addr b.aff b.slots (.slice Af b.free.length cf) (.slice Aa b.attrs.length ca)).toArray, .int .u32 x, eT (cv a)] (HAT.out _ _ ⟨_, _, _, _, rfl, ⟨HL.out, (rr hF).1, (rr hF).2, (rr hG).1, (rr hG).2⟩⟩) ?_
   rintro e V4 ⟨v_, rfl, aW, I⟩
   refine ⟨_, rfl, ?_⟩
   have hV := ak (aW.lower (lb HBASE hB)); (try replace hQ := mv I hQ); replace hB := mv I hB; replace hF := mv I hF; replace hG := mv I hG; replace hS := mv I hS; replace hP := mv I hP; replace hM := mv I hM; replace hX := mv I hX; replace hY := mv I hY; replace hA := mv I hA; replace hZ := mv I hZ; replace hU := mv I hU; clear aW I
   refine kn hK ⟨hX.out, hA.out⟩ (fun hHeld => ?_)
   clear hK K
   refine pu 5 ae.out ?_
   refine pu 6 ae.out ?_
   refine pu 7 ae.out ?_
   exact nc (eF ⟨gQ, v_⟩ _ ⟨hB, hF, hG, hS, hP, hM, hX, hY, hA, hZ, hU, hQ, cE, bk, a7, hV⟩)
 intro s w' hFF; obtain ⟨gQ, v_⟩ := s; simp only at hFF; obtain ⟨hB, hF, hG, hS, hP, hM, hX, hY, hA, hZ, hU, hQ, cE, bk, a7, hV⟩ := hFF; have aW := hV.out; obtain ⟨kS, sw, sy, rfl, dQ, eE⟩ := aW; obtain ⟨A8, c8, rfl⟩ := Kd.R_slice dQ; obtain ⟨A9, c9, rfl⟩ := Kd.R_slice eE; have hC := ak dQ; have hD := ak eE; clear hV kS dQ eE
 refine nj ?_
 refine ow 9 ae.out (fun K hK => ?_)
 refine bJ (by rfl) rfl 57 (.tmp 11) (.tmp 21) rfl gQ (aU nb.addr nb.aff nb.slots (.slice A8 nb.free.length c8) (.slice A9 nb.attrs.length c9)) rfl rfl 57 _ hQ.out 68 (by kernel_rfl) (ah _ _ _ _ _ HNL.out) rfl (b7 _ _ _ _ _ rfl rfl) ?_
 intro V9 aa J; replace hB := gb hB cE J; replace hF := gr hF hQ J; replace hG := gr hG hQ J; replace hS := gr hS hQ J; replace hP := gr hP hQ J; replace hM := gr hM hQ J; replace hX := gn hX bk J; replace hY := gx hY hQ J; replace hA := gx hA hQ J; replace hZ := gn hZ a7 J; replace hU := gx hU hQ J; replace hC := gr hC hQ J; replace hD := gr hD hQ J; replace hQ := ak (aa); clear aa J
 refine hK.out _ _ ⟨hX.out, hA.out⟩ (fun hHeld => ?_)
 clear hK K
 refine pu 10 ae.out ?_
 refine dn ae.out ?_
 clear hHeld
 have HLN := ak (ch (aU nb.addr nb.aff nb.slots (.slice A8 nb.free.length c8) (.slice A9 nb.attrs.length c9)) (ah _ _ _ _ _ HNL.out))
 have HZR := ak (fun v w h => pO v w (by rw [← HNB.out]; exact h))
 go_wp2_with (first
  | ((with_reducible refine av (N := 23) rfl ?_); refine az rfl 76 (.tmp 7) rfl gA rfl _ _ _ hA.out Try.underlying76 rfl 2 (by kernel_rfl) rfl ?_)
  | (go_at_call 60; refine (HMY.out _).mono ?_; rintro e so ⟨rfl, I⟩; have iZ := mv I hB; have jF := mv I hF; have jD := mv I hG; have iB := mv I hS; have iC := mv I hP; have iD := mv I hM; have jz := mv I hX; have iA := mv I hY; have pF := mv I hA; have jy := mv I hZ; have jA := mv I hU; have jB := mv I hQ; have jJ := mv I hC; have jH := mv I hD; clear I hB hF hG hS hP hM hX hY hA hZ hU hQ hC hD)
  | ((with_reducible refine av (N := 27) rfl ?_); refine eK (by rfl) ?_; refine az rfl 62 (.tmp 5) rfl gY rfl _ _ _ iA.out Try.underlying62 rfl 5 (by kernel_rfl) rfl ?_)
  | (go_at_call 100; refine (HIN.out _ (ki.of HM.out iB.out iC.out iD.out)).mono ?_; rintro e FU ⟨rfl, I⟩; have jn := mv I iZ; have jE := mv I jF; have jC := mv I jD; have iW := mv I iB; have iX := mv I iC; have iY := mv I iD; have ji := mv I jz; have iJ := mv I iA; have pE := mv I pF; have jh := mv I jy; have jl := mv I jA; have jm := mv I jB; have jI := mv I jJ; have jG := mv I jH; clear I iZ jF jD iB iC iD jz iA pF jy jA jB jJ jH))
 have al : Below FU.heap.size FU FU.drew := br (Below.refl _ _)
 have nh := mv al jn; have pg := mv al jE; have pf := mv al jC; have o7 := mv al iW; have pc := mv al iX; have pd := mv al iY; have m8 := mv al ji; have m7 := mv al iJ; have qe := mv al pE; have m6 := mv al jh; have m9 := mv al jl; have nf := mv al jm; have pC := mv al jI; have pv := mv al jG
 clear al jn jE jC iW iX iY ji iJ pE jh jl jm jI jG
 have hB := nh
 have hF := pg
 have hG := pf
 have hS := o7
 have hP := pc
 have hM := pd
 have hX := m8
 have hY := m7
 have hA := qe
 have hZ := m6
 have hU := m9
 have hQ := nf
 have hC := pC
 have hD := pv
 clear nh pg pf o7 pc pd m8 m7 qe m6 m9 nf pC pv
 refine dd (n := 11) (S := fun w' => aH w' gX (aU b.addr b.aff b.slots (.slice Af b.free.length cf) (.slice Aa b.attrs.length ca)) 57 ∧ aH w' gY (dj b.addr b.aff (.slice As b.slots.length cs) (.slice Ap b.free.length cp) (.slice Am M.length cm)) 62 ∧ aH w' gQ (aU nb.addr nb.aff nb.slots (.slice A8 nb.free.length c8) (.slice A9 nb.attrs.length c9)) 57) (ds := []) #[false, false, false, false, false, false, false, false, false, false, false] (by kernel_rfl) rfl rfl ⟨hX.out, hY.out, hQ.out⟩ (fun hHeld => ?_); refine bQ uf.tab3 uf.bits3 (fun ae bA => ?_)
 refine tk 0 ae.out bA.out hHeld ?_ (hv := by exact fun _ aZ => aQ 57 (.tmp 4) rfl gX rfl _ _ _ aZ.1 Try.underlying57 rfl HLB.out)
 refine tk 1 ae.out bA.out hHeld ?_ (hv := by exact fun _ aZ => aQ 62 (.tmp 5) rfl gY rfl _ _ _ aZ.2.1 Try.underlying62 rfl (by kernel_rfl))
 refine pu 2 ae.out ?_
 refine pu 3 ae.out ?_
 refine pu 4 ae.out ?_
 refine tk 5 ae.out bA.out hHeld ?_ (hv := by exact fun _ aZ => aQ 57 (.tmp 11) rfl gQ rfl _ _ _ aZ.2.2 Try.underlying57 rfl HLN.out)
 refine on 6 ae.out (fun K hK => ?_)
 refine gs Try.func43 #[.agg (aU nb.addr nb.aff nb.slots (.slice A8 nb.free.length c8) (.slice A9 nb.attrs.length c9)).toArray] (HZR.out _ _ ⟨_, _, _, _, rfl, ⟨HNL.out, (rr hC).1, (rr hC).2, (rr hD).1, (rr hD).2⟩⟩) ?_
 rintro e V6 ⟨rfl, I⟩
 refine ⟨_, rfl, ?_⟩
 replace hB := mv I hB; replace hF := mv I hF; replace hG := mv I hG; replace hS := mv I hS; replace hP := mv I hP; replace hM := mv I hM; replace hX := mv I hX; replace hY := mv I hY; replace hA := mv I hA; replace hZ := mv I hZ; replace hU := mv I hU; replace hQ := mv I hQ; replace hC := mv I hC; replace hD := mv I hD
 refine kn hK ⟨hX.out, hY.out, hQ.out⟩ (fun hHeld => ?_)
 clear hK K
 refine pu 7 ae.out ?_
 refine ow 8 ae.out (fun K hK => ?_)
 refine bJ (by rfl) rfl 57 (.tmp 8) (.tmp 32) rfl gZ (aU b.addr b.aff b.slots (.slice Af b.free.length cf) (.slice Aa b.attrs.length ca)) rfl rfl 57 _ hZ.out 68 (by kernel_rfl) (ah _ _ _ _ _ HL.out) rfl (b7 _ _ _ _ _ rfl rfl) ?_
 intro V8 aa J; replace hB := gb hB cb J; replace hF := gr hF hZ J; replace hG := gr hG hZ J; replace hS := gr hS hZ J; replace hP := gr hP hZ J; replace hM := gr hM hZ J; replace hX := gn hX aG J; replace hY := gx hY hZ J; replace hA := gx hA hZ J; replace hU := gx hU hZ J; replace hQ := gm hQ a7 J; replace hC := gr hC hZ J; replace hD := gr hD hZ J; replace hZ := ak (aa); clear aa J
 refine hK.out _ _ ⟨hX.out, hY.out, hQ.out⟩ (fun hHeld => ?_)
 clear hK K
 refine ow 9 ae.out (fun K hK => ?_)
 refine bJ (by rfl) rfl 62 (.tmp 9) (.tmp 33) rfl gU (dj b.addr b.aff (.slice As b.slots.length cs) (.slice Ap b.free.length cp) (.slice Am M.length cm)) rfl rfl 62 _ hU.out 5 (by kernel_rfl) rfl rfl (dM _ _ rfl rfl rfl) ?_
 intro V9 aa J; replace hB := gb hB fG J; replace hF := gr hF hU J; replace hG := gr hG hU J; replace hS := gr hS hU J; replace hP := gr hP hU J; replace hM := gr hM hU J; replace hX := gx hX hU J; replace hY := gn hY dw J; replace hA := gx hA hU J; replace hZ := gx hZ hU J; replace hQ := gx hQ hU J; replace hC := gr hC hU J; replace hD := gr hD hU J; replace hU := ak (aa); clear aa J
 refine hK.out _ _ ⟨hX.out, hY.out, hQ.out⟩ (fun hHeld => ?_)
 clear hK K
 refine pu 10 ae.out ?_
 refine dn ae.out ?_
 clear hHeld
 go_wp2_with fail
 refine bodyPost_ret (e6 rfl _ _ _ gZ gU 57 62 _ _ _ _ rfl hZ.out rfl Try.underlying57 (by first | exact HLB.out | exact HLN.out) rfl hU.out rfl Try.underlying62 (by kernel_rfl)) rfl ⟨_, _, b, rfl, ?_, ?_, ?_, hB.out⟩
 ·exact HG.out
 ·exact ⟨HL.out, _, _, rfl, hF.out, hG.out⟩
 ·exact ⟨_, _, _, rfl, hS.out, hP.out, by rw [← HM.out]; exact hM.out⟩
set_option maxHeartbeats 16000000 in
set_option maxRecDepth 100000 in
theorem Cj (b : Bk) (hg : RG b) (x : Int) (h0 : 0 ≤ x) (h1 : x < 4294967296) (a : ln) (eW : a.f0.size ≤ 9223372036854775807) (fA : a.f1.size ≤ 9223372036854775807) (hma : ep (cv a) = true) (hin : b9 x = b.addr) (hh : jQ b x = true) (v v2 : Value) (w : World) (base : Nat) (hbase : base ≤ w.heap.size) (hO : ey w base v b) (hR : eU w base v2 b) :
  Calls Try.prog 83 #[v, v2, .int .u32 x, .agg #[.string a.f0, .string a.f1]] w fun e w' => ∃ v1 v2 b', e = .returned (.tuple #[v1, v2, .bool true]) ∧ RG b' ∧ ey w' base v1 b' ∧ eU w' base v2 b' ∧ Below w.heap.size w w' := by
 obtain ⟨hl, vf, va, rfl, hf, ha⟩ := hO
 obtain ⟨vs, vp, vm, rfl, hs, hp, hm⟩ := hR
 obtain ⟨Af, cf, rfl⟩ := Kd.R_slice hf
 obtain ⟨Aa, ca, rfl⟩ := Kd.R_slice ha
 obtain ⟨As, cs, rfl⟩ := Kd.R_slice hs
 obtain ⟨Ap, cp, rfl⟩ := Kd.R_slice hp
 obtain ⟨M, hM⟩ : ∃ M, M = b.attrs.map vc := ⟨_, rfl⟩
 rw [← hM] at hm
 obtain ⟨Am, cm, rfl⟩ := Kd.R_slice hm
 have HL := ak hl
 have HM := ak hM
 have bw := ak hf
 have eh := ak ha
 have aV := ak hs
 have eo := ak hp
 have bS := ak hm
 have HG := ak hg
 have ag := ak (Below.refl w.heap.size w)
 have HBASE := ak hbase
 have HLB := ak (ch (aU b.addr b.aff b.slots (.slice Af b.free.length cf) (.slice Aa b.attrs.length ca)) (ah _ _ _ _ _ HL.out))
 have e0 : pV b x = true := by unfold jQ at hh; rw [decide_eq_true hin, Bool.true_and] at hh; exact hh
 have e1 : qD b x (cv a) = true := by unfold qD; rw [hg.right, hma, decide_eq_true hin]; rfl
 have e2 : sm b x (cv a) = 11 := by unfold sm; rw [if_pos e1, if_pos e0]
 have e3 : nX b x (cv a) = km := by unfold nX; rw [if_pos e1, if_pos e0]
 have hat := fun v w h => oT b hg.ok x h0 h1 (cv a) v w h
 rw [e2, e3] at hat
 have hnl : km.slots.length = 64 := rfl
 obtain ⟨nb, hnb⟩ : ∃ nb, nb = km := ⟨_, rfl⟩
 rw [← hnb] at hat hnl
 have HNL := ak hnl
 have HAT := ak hat
 have HNB := ak hnb
 have HMY := ak (fun w => rX a eW fA w)
 have HIN := ak (fun w h => vB b M As Ap Am cs cp cm w h x h0 h1)
 have HOF := ak (fun w h => rk b hl hg.ok.s8 (fun s hs => (hg.s0 s hs).2) M As Ap Am cs cp cm w h x h0 h1)
 rw [hma] at HMY
 rw [decide_eq_true hin] at HIN
 rw [hh] at HOF
 clear hma hin hh e0 hl hM hf ha hs hp hm hg e1 e2 e3 hat hnl hnb hbase
 go_enter Try.func83, Try.ntmps83
 go_wp2_with (first
  | (refine aD rfl 57 (.tmp 0) rfl _ rfl ?_; intro gX W1 J aa I; have cg := ge ag J; have ao := ak (ag.out.trans (I.mono ag.out.size)); have bp := mv I bw; have dk := mv I eh; have bb := mv I aV; have dg := mv I eo; have bN := mv I bS; have aj := ak (aa); clear J aa I ag bw eh aV eo bS)
  | (refine aD rfl 62 (.tmp 1) rfl _ rfl ?_; intro gY W2 J aa I; have j8 := ge ao J; have gC := ne aj J; have ay := mv I ao; have bX := mv I bp; have dG := mv I dk; have bK := mv I bb; have di := mv I dg; have cC := mv I bN; have aw := mv I aj; have cA := ak (aa); clear J aa I ao bp dk bb dg bN aj)
  | (refine aD rfl 76 (.tmp 3) rfl _ rfl ?_; intro gA W3 J aa I; have ld := ge ay J; have eO := ne aw J; have yr := ne cA J; have aE := mv I ay; have cy := mv I bX; have dU := mv I dG; have b6 := mv I bK; have dS := mv I di; have da := ak (Kd.R_mono (ok' := fun k_ => True) (Kd.R_below cC.out I) (fun _ _ => trivial)); have aC := mv I aw; have cB := mv I cA; have dm := ak (aa); clear J aa I ay bX dG bK di cC aw cA)
  | (refine au (some 8) rfl rfl 57 rfl a6 bT ?_; intro gZ W4 J aa I; have cb := ge aE J; have aG := ne aC J; have gP := ne cB J; have gD := ne dm J; have a8 := mv I aE; have cx := mv I cy; have dF := mv I dU; have cw := mv I b6; have eb := mv I dS; have cR := mv I da; have aY := mv I aC; have b5 := mv I cB; have dK := mv I dm; have bd := ak (aa); clear J aa I aE cy dU b6 dS da aC cB dm)
  | (refine au (some 9) rfl rfl 62 rfl dH (fun _ => by kernel_rfl) ?_; intro gU W5 J aa I; have fG := ge a8 J; have gR := ne aY J; have dw := ne b5 J; have yt := ne dK J; have gO := ne bd J; have bj := mv I a8; have cj := mv I cx; have cW := mv I dF; have cQ := mv I cw; have ek := mv I eb; have cH := mv I cR; have bc := mv I aY; have cY := mv I b5; have eZ := mv I dK; have bI := mv I bd; have eV := ak (aa); clear J aa I a8 cx dF cw eb cR aY b5 dK bd))
 have al : Below W5.heap.size W5 W5.drew := br (Below.refl _ _)
 have bO := mv al bj; have cU := mv al cj; have dt := mv al cW; have cZ := mv al cQ; have er := mv al ek; have dE := mv al cH; have bl := mv al bc; have dh := mv al cY; have fK := mv al eZ; have bW := mv al bI; have eg := mv al eV
 clear al bj cj cW cQ ek cH bc cY eZ bI eV
 have hB := bO
 have hF := cU
 have hG := dt
 have hS := cZ
 have hP := er
 have hM := dE
 have hX := bl
 have hY := dh
 have hA := fK
 have hZ := bW
 have hU := eg
 clear bO cU dt cZ er dE bl dh fK bW eg
 refine dd (n := 11) (S := fun w' => aH w' gX (aU b.addr b.aff b.slots (.slice Af b.free.length cf) (.slice Aa b.attrs.length ca)) 57 ∧ aH w' gA [.string a.f0, .string a.f1] 76) (ds := []) #[false, false, false, false, false, false, false, false, false, false, false] (by kernel_rfl) rfl rfl ⟨hX.out, hA.out⟩ (fun hHeld => ?_); refine bQ oQ.tab1 oQ.bits1 (fun ae bA => ?_)
 refine tk 0 ae.out bA.out hHeld ?_ (hv := by exact fun _ aZ => aQ 57 (.tmp 4) rfl gX rfl _ _ _ aZ.1 Try.underlying57 rfl HLB.out)
 refine pu 1 ae.out ?_
 refine tk 2 ae.out bA.out hHeld ?_ (hv := by exact fun _ aZ => aQ 76 (.tmp 7) rfl gA rfl _ _ _ aZ.2 Try.underlying76 rfl (by kernel_rfl))
 refine qS (σ := Nat × Value) 2 #[true, true, true, true, true, true, true, true, true, false, false] (fun s => [(19, eT (cv a)), (20, .tuple #[s.2, .int .i64 11]), (15, .tuple #[s.2, .int .i64 11]), (21, s.2), (22, .int .i64 11), (11, .pointer (some ⟨s.1, 0, none⟩))]) (fun s w' => Aside0 (Below w.heap.size w w') ∧ Aside0 (Kd.R (Kd.int .u8) 5 w' base (fun _ => True) (.slice Af b.free.length cf) b.free) ∧ Aside0 (Kd.R ju 85 w' base (fun _ => True) (.slice Aa b.attrs.length ca) b.attrs) ∧ Aside0 (Kd.R (Kd.int .i64) 3 w' base (fun _ => True) (.slice As b.slots.length cs) b.slots) ∧ Aside0 (Kd.R (Kd.int .i64) 3 w' base (fun _ => True) (.slice Ap b.free.length cp) b.free) ∧ Aside0 (Kd.R ib 76 w' base (fun _ => True) (.slice Am M.length cm) M) ∧ Aside0 (aH w' gX (aU b.addr b.aff b.slots (.slice Af b.free.length cf) (.slice Aa b.attrs.length ca)) 57) ∧ Aside0 (aH w' gY (dj b.addr b.aff (.slice As b.slots.length cs) (.slice Ap b.free.length cp) (.slice Am M.length cm)) 62) ∧ Aside0 (aH w' gA [.string a.f0, .string a.f1] 76) ∧ Aside0 (aH w' gZ a6 57) ∧ Aside0 (aH w' gU dH 62) ∧ Aside0 (aH w' s.1 a6 57) ∧ Aside0 (w.heap.size ≤ s.1) ∧ Aside0 (gX ≠ s.1) ∧ Aside0 (gZ ≠ s.1) ∧ Aside0 (ey w' base s.2 nb)) ?_ ?_
 rotate_left
 ·intro eF
  refine tw 3 8 ae.out (fun K hK => ?_) (fun K hK => ?_)
  ·skip
   refine gs Try.func50 #[.agg #[.string a.f0, .string a.f1]] (kX a _) ?_
   rintro e V3 ⟨rfl, I⟩
   refine ⟨_, rfl, ?_⟩
   (try replace hV := mv I hV); (try replace hQ := mv I hQ); replace hB := mv I hB; replace hF := mv I hF; replace hG := mv I hG; replace hS := mv I hS; replace hP := mv I hP; replace hM := mv I hM; replace hX := mv I hX; replace hY := mv I hY; replace hA := mv I hA; replace hZ := mv I hZ; replace hU := mv I hU; clear  I
   refine kn hK ⟨hX.out, hA.out⟩ (fun hHeld => ?_)
   clear hK K
   refine tw 4 8 ae.out (fun K hK => ?_) (fun K hK => ?_)
   ·skip
    refine gs Try.func51 #[.agg (aU b.addr b.aff b.slots (.slice Af b.free.length cf) (.slice Aa b.attrs.length ca)).toArray, .int .u32 x, eT (cv a)] (HAT.out _ _ ⟨_, _, _, _, rfl, ⟨HL.out, (rr hF).1, (rr hF).2, (rr hG).1, (rr hG).2⟩⟩) ?_
    rintro e V4 ⟨v_, rfl, aW, I⟩
    refine ⟨_, rfl, ?_⟩
    have hV := ak (aW.lower (lb HBASE hB)); (try replace hQ := mv I hQ); replace hB := mv I hB; replace hF := mv I hF; replace hG := mv I hG; replace hS := mv I hS; replace hP := mv I hP; replace hM := mv I hM; replace hX := mv I hX; replace hY := mv I hY; replace hA := mv I hA; replace hZ := mv I hZ; replace hU := mv I hU; clear aW I
    refine kn hK ⟨hX.out, hA.out⟩ (fun hHeld => ?_)
    clear hK K
    refine pu 5 ae.out ?_
    refine pu 6 ae.out ?_
    refine pu 7 ae.out ?_
    refine on 8 ae.out (fun K hK => ?_)
    refine dO (by rfl) 57 rfl a6 bT ?_
    intro gQ V8 J aa I
    have cE := ge hB J
    have bk := ne hX J
    have a7 := ne hZ J
    (try replace hV := mv I hV)
    replace hB := mv I hB
    replace hF := mv I hF
    replace hG := mv I hG
    replace hS := mv I hS
    replace hP := mv I hP
    replace hM := mv I hM
    replace hX := mv I hX
    replace hY := mv I hY
    replace hA := mv I hA
    replace hZ := mv I hZ
    replace hU := mv I hU
    have hQ := ak aa
    clear J aa I
    refine kn hK ⟨hX.out, hA.out⟩ (fun hHeld => ?_)
    clear hK K
    exact nc (eF ⟨gQ, v_⟩ _ ⟨hB, hF, hG, hS, hP, hM, hX, hY, hA, hZ, hU, hQ, cE, bk, a7, hV⟩)
   ·skip
    refine dO (by rfl) 57 rfl a6 bT ?_
    intro gQ V8 J aa I
    have cE := ge hB J
    have bk := ne hX J
    have a7 := ne hZ J
    (try replace hV := mv I hV)
    replace hB := mv I hB
    replace hF := mv I hF
    replace hG := mv I hG
    replace hS := mv I hS
    replace hP := mv I hP
    replace hM := mv I hM
    replace hX := mv I hX
    replace hY := mv I hY
    replace hA := mv I hA
    replace hZ := mv I hZ
    replace hU := mv I hU
    have hQ := ak aa
    clear J aa I
    refine kn hK ⟨hX.out, hA.out⟩ (fun hHeld => ?_)
    clear hK K
    refine on 4 ae.out (fun K hK => ?_)
    refine gs Try.func51 #[.agg (aU b.addr b.aff b.slots (.slice Af b.free.length cf) (.slice Aa b.attrs.length ca)).toArray, .int .u32 x, eT (cv a)] (HAT.out _ _ ⟨_, _, _, _, rfl, ⟨HL.out, (rr hF).1, (rr hF).2, (rr hG).1, (rr hG).2⟩⟩) ?_
    rintro e V4 ⟨v_, rfl, aW, I⟩
    refine ⟨_, rfl, ?_⟩
    have hV := ak (aW.lower (lb HBASE hB)); (try replace hQ := mv I hQ); replace hB := mv I hB; replace hF := mv I hF; replace hG := mv I hG; replace hS := mv I hS; replace hP := mv I hP; replace hM := mv I hM; replace hX := mv I hX; replace hY := mv I hY; replace hA := mv I hA; replace hZ := mv I hZ; replace hU := mv I hU; clear aW I
    refine kn hK ⟨hX.out, hA.out⟩ (fun hHeld => ?_)
    clear hK K
    refine pu 5 ae.out ?_
    refine pu 6 ae.out ?_
    refine pu 7 ae.out ?_
    exact nc (eF ⟨gQ, v_⟩ _ ⟨hB, hF, hG, hS, hP, hM, hX, hY, hA, hZ, hU, hQ, cE, bk, a7, hV⟩)
  ·skip
   refine dO (by rfl) 57 rfl a6 bT ?_
   intro gQ V8 J aa I
   have cE := ge hB J
   have bk := ne hX J
   have a7 := ne hZ J
   (try replace hV := mv I hV)
   replace hB := mv I hB
   replace hF := mv I hF
   replace hG := mv I hG
   replace hS := mv I hS
   replace hP := mv I hP
   replace hM := mv I hM
   replace hX := mv I hX
   replace hY := mv I hY
   replace hA := mv I hA
   replace hZ := mv I hZ
   replace hU := mv I hU
   have hQ := ak aa
   clear J aa I
   refine kn hK ⟨hX.out, hA.out⟩ (fun hHeld => ?_)
   clear hK K
   refine on 3 ae.out (fun K hK => ?_)
   refine gs Try.func50 #[.agg #[.string a.f0, .string a.f1]] (kX a _) ?_
   rintro e V3 ⟨rfl, I⟩
   refine ⟨_, rfl, ?_⟩
   (try replace hV := mv I hV); (try replace hQ := mv I hQ); replace hB := mv I hB; replace hF := mv I hF; replace hG := mv I hG; replace hS := mv I hS; replace hP := mv I hP; replace hM := mv I hM; replace hX := mv I hX; replace hY := mv I hY; replace hA := mv I hA; replace hZ := mv I hZ; replace hU := mv I hU; clear  I
   refine kn hK ⟨hX.out, hA.out⟩ (fun hHeld => ?_)
   clear hK K
   refine on 4 ae.out (fun K hK => ?_)
   refine gs Try.func51 #[.agg (aU b.addr b.aff b.slots (.slice Af b.free.length cf) (.slice Aa b.attrs.length ca)).toArray, .int .u32 x, eT (cv a)] (HAT.out _ _ ⟨_, _, _, _, rfl, ⟨HL.out, (rr hF).1, (rr hF).2, (rr hG).1, (rr hG).2⟩⟩) ?_
   rintro e V4 ⟨v_, rfl, aW, I⟩
   refine ⟨_, rfl, ?_⟩
   have hV := ak (aW.lower (lb HBASE hB)); (try replace hQ := mv I hQ); replace hB := mv I hB; replace hF := mv I hF; replace hG := mv I hG; replace hS := mv I hS; replace hP := mv I hP; replace hM := mv I hM; replace hX := mv I hX; replace hY := mv I hY; replace hA := mv I hA; replace hZ := mv I hZ; replace hU := mv I hU; clear aW I
   refine kn hK ⟨hX.out, hA.out⟩ (fun hHeld => ?_)
   clear hK K
   refine pu 5 ae.out ?_
   refine pu 6 ae.out ?_
   refine pu 7 ae.out ?_
   exact nc (eF ⟨gQ, v_⟩ _ ⟨hB, hF, hG, hS, hP, hM, hX, hY, hA, hZ, hU, hQ, cE, bk, a7, hV⟩)
 intro s w' hFF; obtain ⟨gQ, v_⟩ := s; simp only at hFF; obtain ⟨hB, hF, hG, hS, hP, hM, hX, hY, hA, hZ, hU, hQ, cE, bk, a7, hV⟩ := hFF; have aW := hV.out; obtain ⟨kS, sw, sy, rfl, dQ, eE⟩ := aW; obtain ⟨A8, c8, rfl⟩ := Kd.R_slice dQ; obtain ⟨A9, c9, rfl⟩ := Kd.R_slice eE; have hC := ak dQ; have hD := ak eE; clear hV kS dQ eE
 refine nj ?_
 refine ow 9 ae.out (fun K hK => ?_)
 refine bJ (by rfl) rfl 57 (.tmp 11) (.tmp 21) rfl gQ (aU nb.addr nb.aff nb.slots (.slice A8 nb.free.length c8) (.slice A9 nb.attrs.length c9)) rfl rfl 57 _ hQ.out 68 (by kernel_rfl) (ah _ _ _ _ _ HNL.out) rfl (b7 _ _ _ _ _ rfl rfl) ?_
 intro V9 aa J; replace hB := gb hB cE J; replace hF := gr hF hQ J; replace hG := gr hG hQ J; replace hS := gr hS hQ J; replace hP := gr hP hQ J; replace hM := gr hM hQ J; replace hX := gn hX bk J; replace hY := gx hY hQ J; replace hA := gx hA hQ J; replace hZ := gn hZ a7 J; replace hU := gx hU hQ J; replace hC := gr hC hQ J; replace hD := gr hD hQ J; replace hQ := ak (aa); clear aa J
 refine hK.out _ _ ⟨hX.out, hA.out⟩ (fun hHeld => ?_)
 clear hK K
 refine pu 10 ae.out ?_
 refine dn ae.out ?_
 clear hHeld
 have HLN := ak (ch (aU nb.addr nb.aff nb.slots (.slice A8 nb.free.length c8) (.slice A9 nb.attrs.length c9)) (ah _ _ _ _ _ HNL.out))
 have HZR := ak (fun v w h => pO v w (by rw [← HNB.out]; exact h))
 go_wp2_with (first
  | ((with_reducible refine av (N := 23) rfl ?_); refine az rfl 76 (.tmp 7) rfl gA rfl _ _ _ hA.out Try.underlying76 rfl 2 (by kernel_rfl) rfl ?_)
  | (go_at_call 60; refine (HMY.out _).mono ?_; rintro e so ⟨rfl, I⟩; have iZ := mv I hB; have jF := mv I hF; have jD := mv I hG; have iB := mv I hS; have iC := mv I hP; have iD := mv I hM; have jz := mv I hX; have iA := mv I hY; have pF := mv I hA; have jy := mv I hZ; have jA := mv I hU; have jB := mv I hQ; have jJ := mv I hC; have jH := mv I hD; clear I hB hF hG hS hP hM hX hY hA hZ hU hQ hC hD)
  | ((with_reducible refine av (N := 27) rfl ?_); refine eK (by rfl) ?_; refine az rfl 62 (.tmp 5) rfl gY rfl _ _ _ iA.out Try.underlying62 rfl 5 (by kernel_rfl) rfl ?_)
  | (go_at_call 100; refine (HIN.out _ (ki.of HM.out iB.out iC.out iD.out)).mono ?_; rintro e FU ⟨rfl, I⟩; have jn := mv I iZ; have jE := mv I jF; have jC := mv I jD; have iW := mv I iB; have iX := mv I iC; have iY := mv I iD; have ji := mv I jz; have iJ := mv I iA; have pE := mv I pF; have jh := mv I jy; have jl := mv I jA; have jm := mv I jB; have jI := mv I jJ; have jG := mv I jH; clear I iZ jF jD iB iC iD jz iA pF jy jA jB jJ jH)
  | ((with_reducible refine av (N := 41) rfl ?_); refine az rfl 62 (.tmp 5) rfl gY rfl _ _ _ iJ.out Try.underlying62 rfl 5 (by kernel_rfl) rfl ?_)
  | (go_at_call 62; refine (HOF.out _ (ki.of HM.out iW.out iX.out iY.out)).mono ?_; rintro e S6 ⟨rfl, I⟩; have nh := mv I jn; have pg := mv I jE; have pf := mv I jC; have o7 := mv I iW; have pc := mv I iX; have pd := mv I iY; have m8 := mv I ji; have m7 := mv I iJ; have qe := mv I pE; have m6 := mv I jh; have m9 := mv I jl; have nf := mv I jm; have pC := mv I jI; have pv := mv I jG; clear I jn jE jC iW iX iY ji iJ pE jh jl jm jI jG)
  | (refine au (some 13) rfl rfl 76 rfl [.string ⟨#[]⟩, .string ⟨#[]⟩] (fun _ => by kernel_rfl) ?_; intro gV Jb J aa I; have db := ge nh J; have fx := ne m8 J; have eN := ne m7 J; have lL := ne qe J; have ku := ne m6 J; have ef := ne m9 J; have vN := ne nf J; have tT := mv I nh; have tK := mv I pg; have tH := mv I pf; have tq := mv I o7; have tx := mv I pc; have tD := ak (Kd.R_mono (ok' := fun k_ => k_ ≠ gV) (Kd.R_below (Kd.R_bound pd.out) I) (fun k_ dc e_ => by have h_ := dc.2.2.1; omega)); have tj := mv I m8; have th := mv I m7; have AH := mv I qe; have td := mv I m6; have tn := mv I m9; have tu := mv I nf; have tQ := mv I pC; have tN := mv I pv; have fU := ak (aa); clear J aa I nh pg pf o7 pc pd m8 m7 qe m6 m9 nf pC pv)
  | (refine aK rfl 76 (.tmp 13) (.tmp 44) rfl gV [.string (nI b x).f0, .string (nI b x).f1] rfl rfl 76 _ fU.out 2 (by kernel_rfl) rfl rfl (jx (nI b x)) ?_; intro Er aa J; have tS := gb tT db J; have tJ := gr tK fU J; have tG := gr tH fU J; have tp := gr tq fU J; have tv := gr tx fU J; have tC := ak (Kd.R_mono (ok' := fun _ => True) (Kd.R_grown tD.out J (fun k_ dc e_ => dc (Option.some.inj e_))) (fun _ _ => trivial)); have ti := gx tj fU J; have tg := gx th fU J; have AG := gn AH lL J; have tc := gx td fU J; have tm := gx tn fU J; have tt := gx tu fU J; have tP := gr tQ fU J; have tM := gr tN fU J; have Cz := ak (aa); clear aa J tT tK tH tq tx tD tj th AH td tn tu tQ tN fU))
 have al : Below Er.heap.size Er Er.drew := br (Below.refl _ _)
 have AA := mv al tS; have z4 := mv al tJ; have zW := mv al tG; have zu := mv al tp; have zD := mv al tv; have zK := mv al tC; have zl := mv al ti; have zh := mv al tg; have AE := mv al AG; have ze := mv al tc; have zo := mv al tm; have zz := mv al tt; have An := mv al tP; have Ag := mv al tM
 clear al tS tJ tG tp tv tC ti tg AG tc tm tt tP tM
 have hB := AA
 have hF := z4
 have hG := zW
 have hS := zu
 have hP := zD
 have hM := zK
 have hX := zl
 have hY := zh
 have hA := AE
 have hZ := ze
 have hU := zo
 have hQ := zz
 have hC := An
 have hD := Ag
 clear AA z4 zW zu zD zK zl zh AE ze zo zz An Ag
 refine dd (n := 11) (S := fun w' => aH w' gX (aU b.addr b.aff b.slots (.slice Af b.free.length cf) (.slice Aa b.attrs.length ca)) 57 ∧ aH w' gY (dj b.addr b.aff (.slice As b.slots.length cs) (.slice Ap b.free.length cp) (.slice Am M.length cm)) 62 ∧ aH w' gQ (aU nb.addr nb.aff nb.slots (.slice A8 nb.free.length c8) (.slice A9 nb.attrs.length c9)) 57) (ds := []) #[false, false, false, false, false, false, false, false, false, false, false] (by kernel_rfl) rfl rfl ⟨hX.out, hY.out, hQ.out⟩ (fun hHeld => ?_); refine bQ wJ.tab6 wJ.bits6 (fun ae bA => ?_)
 refine tk 0 ae.out bA.out hHeld ?_ (hv := by exact fun _ aZ => aQ 57 (.tmp 4) rfl gX rfl _ _ _ aZ.1 Try.underlying57 rfl HLB.out)
 refine tk 1 ae.out bA.out hHeld ?_ (hv := by exact fun _ aZ => aQ 62 (.tmp 5) rfl gY rfl _ _ _ aZ.2.1 Try.underlying62 rfl (by kernel_rfl))
 refine pu 2 ae.out ?_
 refine pu 3 ae.out ?_
 refine pu 4 ae.out ?_
 refine tk 5 ae.out bA.out hHeld ?_ (hv := by exact fun _ aZ => aQ 57 (.tmp 11) rfl gQ rfl _ _ _ aZ.2.2 Try.underlying57 rfl HLN.out)
 refine on 6 ae.out (fun K hK => ?_)
 refine gs Try.func43 #[.agg (aU nb.addr nb.aff nb.slots (.slice A8 nb.free.length c8) (.slice A9 nb.attrs.length c9)).toArray] (HZR.out _ _ ⟨_, _, _, _, rfl, ⟨HNL.out, (rr hC).1, (rr hC).2, (rr hD).1, (rr hD).2⟩⟩) ?_
 rintro e V6 ⟨rfl, I⟩
 refine ⟨_, rfl, ?_⟩
 replace hB := mv I hB; replace hF := mv I hF; replace hG := mv I hG; replace hS := mv I hS; replace hP := mv I hP; replace hM := mv I hM; replace hX := mv I hX; replace hY := mv I hY; replace hA := mv I hA; replace hZ := mv I hZ; replace hU := mv I hU; replace hQ := mv I hQ; replace hC := mv I hC; replace hD := mv I hD
 refine kn hK ⟨hX.out, hY.out, hQ.out⟩ (fun hHeld => ?_)
 clear hK K
 refine pu 7 ae.out ?_
 refine ow 8 ae.out (fun K hK => ?_)
 refine bJ (by rfl) rfl 57 (.tmp 8) (.tmp 47) rfl gZ (aU b.addr b.aff b.slots (.slice Af b.free.length cf) (.slice Aa b.attrs.length ca)) rfl rfl 57 _ hZ.out 68 (by kernel_rfl) (ah _ _ _ _ _ HL.out) rfl (b7 _ _ _ _ _ rfl rfl) ?_
 intro V8 aa J; replace hB := gb hB cb J; replace hF := gr hF hZ J; replace hG := gr hG hZ J; replace hS := gr hS hZ J; replace hP := gr hP hZ J; replace hM := gr hM hZ J; replace hX := gn hX aG J; replace hY := gx hY hZ J; replace hA := gx hA hZ J; replace hU := gx hU hZ J; replace hQ := gm hQ a7 J; replace hC := gr hC hZ J; replace hD := gr hD hZ J; replace hZ := ak (aa); clear aa J
 refine hK.out _ _ ⟨hX.out, hY.out, hQ.out⟩ (fun hHeld => ?_)
 clear hK K
 refine ow 9 ae.out (fun K hK => ?_)
 refine bJ (by rfl) rfl 62 (.tmp 9) (.tmp 48) rfl gU (dj b.addr b.aff (.slice As b.slots.length cs) (.slice Ap b.free.length cp) (.slice Am M.length cm)) rfl rfl 62 _ hU.out 5 (by kernel_rfl) rfl rfl (dM _ _ rfl rfl rfl) ?_
 intro V9 aa J; replace hB := gb hB fG J; replace hF := gr hF hU J; replace hG := gr hG hU J; replace hS := gr hS hU J; replace hP := gr hP hU J; replace hM := gr hM hU J; replace hX := gx hX hU J; replace hY := gn hY dw J; replace hA := gx hA hU J; replace hZ := gx hZ hU J; replace hQ := gx hQ hU J; replace hC := gr hC hU J; replace hD := gr hD hU J; replace hU := ak (aa); clear aa J
 refine hK.out _ _ ⟨hX.out, hY.out, hQ.out⟩ (fun hHeld => ?_)
 clear hK K
 refine pu 10 ae.out ?_
 refine dn ae.out ?_
 clear hHeld
 go_wp2_with fail
 refine bodyPost_ret (e6 rfl _ _ _ gZ gU 57 62 _ _ _ _ rfl hZ.out rfl Try.underlying57 (by first | exact HLB.out | exact HLN.out) rfl hU.out rfl Try.underlying62 (by kernel_rfl)) rfl ⟨_, _, b, rfl, ?_, ?_, ?_, hB.out⟩
 ·exact HG.out
 ·exact ⟨HL.out, _, _, rfl, hF.out, hG.out⟩
 ·exact ⟨_, _, _, rfl, hS.out, hP.out, by rw [← HM.out]; exact hM.out⟩
set_option maxHeartbeats 16000000 in
set_option maxRecDepth 100000 in
theorem E6 (b : Bk) (hg : RG b) (x : Int) (h0 : 0 ≤ x) (h1 : x < 4294967296) (a : ln) (eW : a.f0.size ≤ 9223372036854775807) (fA : a.f1.size ≤ 9223372036854775807) (hma : ep (cv a) = true) (hin : b9 x = b.addr) (hh : jQ b x = false) (v v2 : Value) (w : World) (base : Nat) (hbase : base ≤ w.heap.size) (hO : ey w base v b) (hR : eU w base v2 b) :
  Calls Try.prog 83 #[v, v2, .int .u32 x, .agg #[.string a.f0, .string a.f1]] w fun e w' => ∃ v1 v2 b', e = .returned (.tuple #[v1, v2, .bool true]) ∧ RG b' ∧ ey w' base v1 b' ∧ eU w' base v2 b' ∧ Below w.heap.size w w' := by
 obtain ⟨hl, vf, va, rfl, hf, ha⟩ := hO
 obtain ⟨vs, vp, vm, rfl, hs, hp, hm⟩ := hR
 obtain ⟨Af, cf, rfl⟩ := Kd.R_slice hf
 obtain ⟨Aa, ca, rfl⟩ := Kd.R_slice ha
 obtain ⟨As, cs, rfl⟩ := Kd.R_slice hs
 obtain ⟨Ap, cp, rfl⟩ := Kd.R_slice hp
 obtain ⟨M, hM⟩ : ∃ M, M = b.attrs.map vc := ⟨_, rfl⟩
 rw [← hM] at hm
 obtain ⟨Am, cm, rfl⟩ := Kd.R_slice hm
 have HL := ak hl
 have HM := ak hM
 have bw := ak hf
 have eh := ak ha
 have aV := ak hs
 have eo := ak hp
 have bS := ak hm
 have HG := ak hg
 have ag := ak (Below.refl w.heap.size w)
 have HBASE := ak hbase
 have HLB := ak (ch (aU b.addr b.aff b.slots (.slice Af b.free.length cf) (.slice Aa b.attrs.length ca)) (ah _ _ _ _ _ HL.out))
 have e0 : pV b x = false := by unfold jQ at hh; rw [decide_eq_true hin, Bool.true_and] at hh; exact hh
 have e1 : qD b x (cv a) = true := by unfold qD; rw [hg.right, hma, decide_eq_true hin]; rfl
 have e2 : sm b x (cv a) = 0 := by unfold sm; rw [if_pos e1, if_neg (by rw [e0]; decide)]
 have e3 : nX b x (cv a) = fT b (x % 64).toNat (cv a) := by
  unfold nX
  rw [if_pos e1, if_neg (by rw [e0]; decide)]
  have : x - b.addr = x % 64 := by unfold b9 at hin; omega
  rw [this]
 have hrg := hg.give (x % 64).toNat (by omega) (by
  unfold pV at e0
  have : x - b.addr = x % 64 := by unfold b9 at hin; omega
  rw [this] at e0
  simpa using e0) (cv a) hma
 have hat := fun v w h => oT b hg.ok x h0 h1 (cv a) v w h
 rw [e2, e3] at hat
 have hnl : (fT b (x % 64).toNat (cv a)).slots.length = 64 := hrg.l64
 have hra := fun v w h => Cf b HL.out (by have := hg.sum; omega) (by have := hg.na; omega) ((C4 _).2 hg.nd) x h0 h1 (cv a) v w h
 obtain ⟨nb, hnb⟩ : ∃ nb, nb = fT b (x % 64).toNat (cv a) := ⟨_, rfl⟩
 rw [← hnb] at hat hnl hra hrg
 have HRA := ak hra
 have HRG := ak hrg
 have HNL := ak hnl
 have HAT := ak hat
 have HNB := ak hnb
 have HMY := ak (fun w => rX a eW fA w)
 have HIN := ak (fun w h => vB b M As Ap Am cs cp cm w h x h0 h1)
 have HOF := ak (fun w h => rk b hl hg.ok.s8 (fun s hs => (hg.s0 s hs).2) M As Ap Am cs cp cm w h x h0 h1)
 rw [hma] at HMY
 rw [decide_eq_true hin] at HIN
 rw [hh] at HOF
 clear hma hin hh e0 hl hM hf ha hs hp hm hg e1 e2 e3 hat hnl hnb hbase hra hrg
 go_enter Try.func83, Try.ntmps83
 go_wp2_with (first
  | (refine aD rfl 57 (.tmp 0) rfl _ rfl ?_; intro gX W1 J aa I; have cg := ge ag J; have ao := ak (ag.out.trans (I.mono ag.out.size)); have bp := mv I bw; have dk := mv I eh; have bb := mv I aV; have dg := mv I eo; have bN := mv I bS; have aj := ak (aa); clear J aa I ag bw eh aV eo bS)
  | (refine aD rfl 62 (.tmp 1) rfl _ rfl ?_; intro gY W2 J aa I; have j8 := ge ao J; have gC := ne aj J; have ay := mv I ao; have bX := mv I bp; have dG := mv I dk; have bK := mv I bb; have di := mv I dg; have cC := mv I bN; have aw := mv I aj; have cA := ak (aa); clear J aa I ao bp dk bb dg bN aj)
  | (refine aD rfl 76 (.tmp 3) rfl _ rfl ?_; intro gA W3 J aa I; have ld := ge ay J; have eO := ne aw J; have yr := ne cA J; have aE := mv I ay; have cy := mv I bX; have dU := mv I dG; have b6 := mv I bK; have dS := mv I di; have da := ak (Kd.R_mono (ok' := fun k_ => True) (Kd.R_below cC.out I) (fun _ _ => trivial)); have aC := mv I aw; have cB := mv I cA; have dm := ak (aa); clear J aa I ay bX dG bK di cC aw cA)
  | (refine au (some 8) rfl rfl 57 rfl a6 bT ?_; intro gZ W4 J aa I; have cb := ge aE J; have aG := ne aC J; have gP := ne cB J; have gD := ne dm J; have a8 := mv I aE; have cx := mv I cy; have dF := mv I dU; have cw := mv I b6; have eb := mv I dS; have cR := mv I da; have aY := mv I aC; have b5 := mv I cB; have dK := mv I dm; have bd := ak (aa); clear J aa I aE cy dU b6 dS da aC cB dm)
  | (refine au (some 9) rfl rfl 62 rfl dH (fun _ => by kernel_rfl) ?_; intro gU W5 J aa I; have fG := ge a8 J; have gR := ne aY J; have dw := ne b5 J; have yt := ne dK J; have gO := ne bd J; have bj := mv I a8; have cj := mv I cx; have cW := mv I dF; have cQ := mv I cw; have ek := mv I eb; have cH := mv I cR; have bc := mv I aY; have cY := mv I b5; have eZ := mv I dK; have bI := mv I bd; have eV := ak (aa); clear J aa I a8 cx dF cw eb cR aY b5 dK bd))
 have al : Below W5.heap.size W5 W5.drew := br (Below.refl _ _)
 have bO := mv al bj; have cU := mv al cj; have dt := mv al cW; have cZ := mv al cQ; have er := mv al ek; have dE := mv al cH; have bl := mv al bc; have dh := mv al cY; have fK := mv al eZ; have bW := mv al bI; have eg := mv al eV
 clear al bj cj cW cQ ek cH bc cY eZ bI eV
 have hB := bO
 have hF := cU
 have hG := dt
 have hS := cZ
 have hP := er
 have hM := dE
 have hX := bl
 have hY := dh
 have hA := fK
 have hZ := bW
 have hU := eg
 clear bO cU dt cZ er dE bl dh fK bW eg
 refine dd (n := 11) (S := fun w' => aH w' gX (aU b.addr b.aff b.slots (.slice Af b.free.length cf) (.slice Aa b.attrs.length ca)) 57 ∧ aH w' gA [.string a.f0, .string a.f1] 76) (ds := []) #[false, false, false, false, false, false, false, false, false, false, false] (by kernel_rfl) rfl rfl ⟨hX.out, hA.out⟩ (fun hHeld => ?_); refine bQ oQ.tab1 oQ.bits1 (fun ae bA => ?_)
 refine tk 0 ae.out bA.out hHeld ?_ (hv := by exact fun _ aZ => aQ 57 (.tmp 4) rfl gX rfl _ _ _ aZ.1 Try.underlying57 rfl HLB.out)
 refine pu 1 ae.out ?_
 refine tk 2 ae.out bA.out hHeld ?_ (hv := by exact fun _ aZ => aQ 76 (.tmp 7) rfl gA rfl _ _ _ aZ.2 Try.underlying76 rfl (by kernel_rfl))
 refine qS (σ := Nat × Value) 2 #[true, true, true, true, true, true, true, true, true, false, false] (fun s => [(19, eT (cv a)), (20, .tuple #[s.2, .int .i64 0]), (15, .tuple #[s.2, .int .i64 0]), (21, s.2), (22, .int .i64 0), (11, .pointer (some ⟨s.1, 0, none⟩))]) (fun s w' => Aside0 (Below w.heap.size w w') ∧ Aside0 (Kd.R (Kd.int .u8) 5 w' base (fun _ => True) (.slice Af b.free.length cf) b.free) ∧ Aside0 (Kd.R ju 85 w' base (fun _ => True) (.slice Aa b.attrs.length ca) b.attrs) ∧ Aside0 (Kd.R (Kd.int .i64) 3 w' base (fun _ => True) (.slice As b.slots.length cs) b.slots) ∧ Aside0 (Kd.R (Kd.int .i64) 3 w' base (fun _ => True) (.slice Ap b.free.length cp) b.free) ∧ Aside0 (Kd.R ib 76 w' base (fun _ => True) (.slice Am M.length cm) M) ∧ Aside0 (aH w' gX (aU b.addr b.aff b.slots (.slice Af b.free.length cf) (.slice Aa b.attrs.length ca)) 57) ∧ Aside0 (aH w' gY (dj b.addr b.aff (.slice As b.slots.length cs) (.slice Ap b.free.length cp) (.slice Am M.length cm)) 62) ∧ Aside0 (aH w' gA [.string a.f0, .string a.f1] 76) ∧ Aside0 (aH w' gZ a6 57) ∧ Aside0 (aH w' gU dH 62) ∧ Aside0 (aH w' s.1 a6 57) ∧ Aside0 (w.heap.size ≤ s.1) ∧ Aside0 (gX ≠ s.1) ∧ Aside0 (gZ ≠ s.1) ∧ Aside0 (ey w' base s.2 nb)) ?_ ?_
 rotate_left
 ·intro eF
  refine tw 3 8 ae.out (fun K hK => ?_) (fun K hK => ?_)
  ·skip
   refine gs Try.func50 #[.agg #[.string a.f0, .string a.f1]] (kX a _) ?_
   rintro e V3 ⟨rfl, I⟩
   refine ⟨_, rfl, ?_⟩
   (try replace hV := mv I hV); (try replace hQ := mv I hQ); replace hB := mv I hB; replace hF := mv I hF; replace hG := mv I hG; replace hS := mv I hS; replace hP := mv I hP; replace hM := mv I hM; replace hX := mv I hX; replace hY := mv I hY; replace hA := mv I hA; replace hZ := mv I hZ; replace hU := mv I hU; clear  I
   refine kn hK ⟨hX.out, hA.out⟩ (fun hHeld => ?_)
   clear hK K
   refine tw 4 8 ae.out (fun K hK => ?_) (fun K hK => ?_)
   ·skip
    refine gs Try.func51 #[.agg (aU b.addr b.aff b.slots (.slice Af b.free.length cf) (.slice Aa b.attrs.length ca)).toArray, .int .u32 x, eT (cv a)] (HAT.out _ _ ⟨_, _, _, _, rfl, ⟨HL.out, (rr hF).1, (rr hF).2, (rr hG).1, (rr hG).2⟩⟩) ?_
    rintro e V4 ⟨v_, rfl, aW, I⟩
    refine ⟨_, rfl, ?_⟩
    have hV := ak (aW.lower (lb HBASE hB)); (try replace hQ := mv I hQ); replace hB := mv I hB; replace hF := mv I hF; replace hG := mv I hG; replace hS := mv I hS; replace hP := mv I hP; replace hM := mv I hM; replace hX := mv I hX; replace hY := mv I hY; replace hA := mv I hA; replace hZ := mv I hZ; replace hU := mv I hU; clear aW I
    refine kn hK ⟨hX.out, hA.out⟩ (fun hHeld => ?_)
    clear hK K
    refine pu 5 ae.out ?_
    refine pu 6 ae.out ?_
    refine pu 7 ae.out ?_
    refine on 8 ae.out (fun K hK => ?_)
    refine dO (by rfl) 57 rfl a6 bT ?_
    intro gQ V8 J aa I
    have cE := ge hB J
    have bk := ne hX J
    have a7 := ne hZ J
    (try replace hV := mv I hV)
    replace hB := mv I hB
    replace hF := mv I hF
    replace hG := mv I hG
    replace hS := mv I hS
    replace hP := mv I hP
    replace hM := mv I hM
    replace hX := mv I hX
    replace hY := mv I hY
    replace hA := mv I hA
    replace hZ := mv I hZ
    replace hU := mv I hU
    have hQ := ak aa
    clear J aa I
    refine kn hK ⟨hX.out, hA.out⟩ (fun hHeld => ?_)
    clear hK K
    exact nc (eF ⟨gQ, v_⟩ _ ⟨hB, hF, hG, hS, hP, hM, hX, hY, hA, hZ, hU, hQ, cE, bk, a7, hV⟩)
   ·skip
    refine dO (by rfl) 57 rfl a6 bT ?_
    intro gQ V8 J aa I
    have cE := ge hB J
    have bk := ne hX J
    have a7 := ne hZ J
    (try replace hV := mv I hV)
    replace hB := mv I hB
    replace hF := mv I hF
    replace hG := mv I hG
    replace hS := mv I hS
    replace hP := mv I hP
    replace hM := mv I hM
    replace hX := mv I hX
    replace hY := mv I hY
    replace hA := mv I hA
    replace hZ := mv I hZ
    replace hU := mv I hU
    have hQ := ak aa
    clear J aa I
    refine kn hK ⟨hX.out, hA.out⟩ (fun hHeld => ?_)
    clear hK K
    refine on 4 ae.out (fun K hK => ?_)
    refine gs Try.func51 #[.agg (aU b.addr b.aff b.slots (.slice Af b.free.length cf) (.slice Aa b.attrs.length ca)).toArray, .int .u32 x, eT (cv a)] (HAT.out _ _ ⟨_, _, _, _, rfl, ⟨HL.out, (rr hF).1, (rr hF).2, (rr hG).1, (rr hG).2⟩⟩) ?_
    rintro e V4 ⟨v_, rfl, aW, I⟩
    refine ⟨_, rfl, ?_⟩
    have hV := ak (aW.lower (lb HBASE hB)); (try replace hQ := mv I hQ); replace hB := mv I hB; replace hF := mv I hF; replace hG := mv I hG; replace hS := mv I hS; replace hP := mv I hP; replace hM := mv I hM; replace hX := mv I hX; replace hY := mv I hY; replace hA := mv I hA; replace hZ := mv I hZ; replace hU := mv I hU; clear aW I
    refine kn hK ⟨hX.out, hA.out⟩ (fun hHeld => ?_)
    clear hK K
    refine pu 5 ae.out ?_
    refine pu 6 ae.out ?_
    refine pu 7 ae.out ?_
    exact nc (eF ⟨gQ, v_⟩ _ ⟨hB, hF, hG, hS, hP, hM, hX, hY, hA, hZ, hU, hQ, cE, bk, a7, hV⟩)
  ·skip
   refine dO (by rfl) 57 rfl a6 bT ?_
   intro gQ V8 J aa I
   have cE := ge hB J
   have bk := ne hX J
   have a7 := ne hZ J
   (try replace hV := mv I hV)
   replace hB := mv I hB
   replace hF := mv I hF
   replace hG := mv I hG
   replace hS := mv I hS
   replace hP := mv I hP
   replace hM := mv I hM
   replace hX := mv I hX
   replace hY := mv I hY
   replace hA := mv I hA
   replace hZ := mv I hZ
   replace hU := mv I hU
   have hQ := ak aa
   clear J aa I
   refine kn hK ⟨hX.out, hA.out⟩ (fun hHeld => ?_)
   clear hK K
   refine on 3 ae.out (fun K hK => ?_)
   refine gs Try.func50 #[.agg #[.string a.f0, .string a.f1]] (kX a _) ?_
   rintro e V3 ⟨rfl, I⟩
   refine ⟨_, rfl, ?_⟩
   (try replace hV := mv I hV); (try replace hQ := mv I hQ); replace hB := mv I hB; replace hF := mv I hF; replace hG := mv I hG; replace hS := mv I hS; replace hP := mv I hP; replace hM := mv I hM; replace hX := mv I hX; replace hY := mv I hY; replace hA := mv I hA; replace hZ := mv I hZ; replace hU := mv I hU; clear  I
   refine kn hK ⟨hX.out, hA.out⟩ (fun hHeld => ?_)
   clear hK K
   refine on 4 ae.out (fun K hK => ?_)
   refine gs Try.func51 #[.agg (aU b.addr b.aff b.slots (.slice Af b.free.length cf) (.slice Aa b.attrs.length ca)).toArray, .int .u32 x, eT (cv a)] (HAT.out _ _ ⟨_, _, _, _, rfl, ⟨HL.out, (rr hF).1, (rr hF).2, (rr hG).1, (rr hG).2⟩⟩) ?_
   rintro e V4 ⟨v_, rfl, aW, I⟩
   refine ⟨_, rfl, ?_⟩
   have hV := ak (aW.lower (lb HBASE hB)); (try replace hQ := mv I hQ); replace hB := mv I hB; replace hF := mv I hF; replace hG := mv I hG; replace hS := mv I hS; replace hP := mv I hP; replace hM := mv I hM; replace hX := mv I hX; replace hY := mv I hY; replace hA := mv I hA; replace hZ := mv I hZ; replace hU := mv I hU; clear aW I
   refine kn hK ⟨hX.out, hA.out⟩ (fun hHeld => ?_)
   clear hK K
   refine pu 5 ae.out ?_
   refine pu 6 ae.out ?_
   refine pu 7 ae.out ?_
   exact nc (eF ⟨gQ, v_⟩ _ ⟨hB, hF, hG, hS, hP, hM, hX, hY, hA, hZ, hU, hQ, cE, bk, a7, hV⟩)
 intro s w' hFF; obtain ⟨gQ, v_⟩ := s; simp only at hFF; obtain ⟨hB, hF, hG, hS, hP, hM, hX, hY, hA, hZ, hU, hQ, cE, bk, a7, hV⟩ := hFF; have aW := hV.out; obtain ⟨kS, sw, sy, rfl, dQ, eE⟩ := aW; obtain ⟨A8, c8, rfl⟩ := Kd.R_slice dQ; obtain ⟨A9, c9, rfl⟩ := Kd.R_slice eE; have hC := ak dQ; have hD := ak eE; clear hV kS dQ eE
 refine nj ?_
 refine ow 9 ae.out (fun K hK => ?_)
 refine bJ (by rfl) rfl 57 (.tmp 11) (.tmp 21) rfl gQ (aU nb.addr nb.aff nb.slots (.slice A8 nb.free.length c8) (.slice A9 nb.attrs.length c9)) rfl rfl 57 _ hQ.out 68 (by kernel_rfl) (ah _ _ _ _ _ HNL.out) rfl (b7 _ _ _ _ _ rfl rfl) ?_
 intro V9 aa J; replace hB := gb hB cE J; replace hF := gr hF hQ J; replace hG := gr hG hQ J; replace hS := gr hS hQ J; replace hP := gr hP hQ J; replace hM := gr hM hQ J; replace hX := gn hX bk J; replace hY := gx hY hQ J; replace hA := gx hA hQ J; replace hZ := gn hZ a7 J; replace hU := gx hU hQ J; replace hC := gr hC hQ J; replace hD := gr hD hQ J; replace hQ := ak (aa); clear aa J
 refine hK.out _ _ ⟨hX.out, hA.out⟩ (fun hHeld => ?_)
 clear hK K
 refine pu 10 ae.out ?_
 refine dn ae.out ?_
 clear hHeld
 have HLN := ak (ch (aU nb.addr nb.aff nb.slots (.slice A8 nb.free.length c8) (.slice A9 nb.attrs.length c9)) (ah _ _ _ _ _ HNL.out))
 go_wp2_with (first
  | ((with_reducible refine av (N := 23) rfl ?_); refine az rfl 76 (.tmp 7) rfl gA rfl _ _ _ hA.out Try.underlying76 rfl 2 (by kernel_rfl) rfl ?_)
  | (go_at_call 60; refine (HMY.out _).mono ?_; rintro e so ⟨rfl, I⟩; have iZ := mv I hB; have jF := mv I hF; have jD := mv I hG; have iB := mv I hS; have iC := mv I hP; have iD := mv I hM; have jz := mv I hX; have iA := mv I hY; have pF := mv I hA; have jy := mv I hZ; have jA := mv I hU; have jB := mv I hQ; have jJ := mv I hC; have jH := mv I hD; clear I hB hF hG hS hP hM hX hY hA hZ hU hQ hC hD)
  | ((with_reducible refine av (N := 27) rfl ?_); refine eK (by rfl) ?_; refine az rfl 62 (.tmp 5) rfl gY rfl _ _ _ iA.out Try.underlying62 rfl 5 (by kernel_rfl) rfl ?_)
  | (go_at_call 100; refine (HIN.out _ (ki.of HM.out iB.out iC.out iD.out)).mono ?_; rintro e FU ⟨rfl, I⟩; have jn := mv I iZ; have jE := mv I jF; have jC := mv I jD; have iW := mv I iB; have iX := mv I iC; have iY := mv I iD; have ji := mv I jz; have iJ := mv I iA; have pE := mv I pF; have jh := mv I jy; have jl := mv I jA; have jm := mv I jB; have jI := mv I jJ; have jG := mv I jH; clear I iZ jF jD iB iC iD jz iA pF jy jA jB jJ jH)
  | ((with_reducible refine av (N := 41) rfl ?_); refine az rfl 62 (.tmp 5) rfl gY rfl _ _ _ iJ.out Try.underlying62 rfl 5 (by kernel_rfl) rfl ?_)
  | (go_at_call 62; refine (HOF.out _ (ki.of HM.out iW.out iX.out iY.out)).mono ?_; rintro e S6 ⟨rfl, I⟩; have nh := mv I jn; have pg := mv I jE; have pf := mv I jC; have o7 := mv I iW; have pc := mv I iX; have pd := mv I iY; have m8 := mv I ji; have m7 := mv I iJ; have qe := mv I pE; have m6 := mv I jh; have m9 := mv I jl; have nf := mv I jm; have pC := mv I jI; have pv := mv I jG; clear I jn jE jC iW iX iY ji iJ pE jh jl jm jI jG)
  | (refine au (some 13) rfl rfl 76 rfl [.string ⟨#[]⟩, .string ⟨#[]⟩] (fun _ => by kernel_rfl) ?_; intro gV Jb J aa I; have db := ge nh J; have fx := ne m8 J; have eN := ne m7 J; have lL := ne qe J; have ku := ne m6 J; have ef := ne m9 J; have vN := ne nf J; have tT := mv I nh; have tK := mv I pg; have tH := mv I pf; have tq := mv I o7; have tx := mv I pc; have tD := ak (Kd.R_mono (ok' := fun k_ => k_ ≠ gV) (Kd.R_below (Kd.R_bound pd.out) I) (fun k_ dc e_ => by have h_ := dc.2.2.1; omega)); have tj := mv I m8; have th := mv I m7; have AH := mv I qe; have td := mv I m6; have tn := mv I m9; have tu := mv I nf; have tQ := mv I pC; have tN := mv I pv; have fU := ak (aa); clear J aa I nh pg pf o7 pc pd m8 m7 qe m6 m9 nf pC pv)
  | (refine aK rfl 76 (.tmp 13) (.tmp 44) rfl gV [.string (nI b x).f0, .string (nI b x).f1] rfl rfl 76 _ fU.out 2 (by kernel_rfl) rfl rfl (jx (nI b x)) ?_; intro Er aa J; have tS := gb tT db J; have tJ := gr tK fU J; have tG := gr tH fU J; have tp := gr tq fU J; have tv := gr tx fU J; have tC := ak (Kd.R_mono (ok' := fun _ => True) (Kd.R_grown tD.out J (fun k_ dc e_ => dc (Option.some.inj e_))) (fun _ _ => trivial)); have ti := gx tj fU J; have tg := gx th fU J; have AG := gn AH lL J; have tc := gx td fU J; have tm := gx tn fU J; have tt := gx tu fU J; have tP := gr tQ fU J; have tM := gr tN fU J; have Cz := ak (aa); clear aa J tT tK tH tq tx tD tj th AH td tn tu tQ tN fU))
 have al : Below Er.heap.size Er Er.drew := br (Below.refl _ _)
 have AA := mv al tS; have z4 := mv al tJ; have zW := mv al tG; have zu := mv al tp; have zD := mv al tv; have zK := mv al tC; have zl := mv al ti; have zh := mv al tg; have AE := mv al AG; have ze := mv al tc; have zo := mv al tm; have zz := mv al tt; have An := mv al tP; have Ag := mv al tM
 clear al tS tJ tG tp tv tC ti tg AG tc tm tt tP tM
 have hB := AA
 have hF := z4
 have hG := zW
 have hS := zu
 have hP := zD
 have hM := zK
 have hX := zl
 have hY := zh
 have hA := AE
 have hZ := ze
 have hU := zo
 have hQ := zz
 have hC := An
 have hD := Ag
 clear AA z4 zW zu zD zK zl zh AE ze zo zz An Ag
 refine dd (n := 10) (S := fun w' => aH w' gX (aU b.addr b.aff b.slots (.slice Af b.free.length cf) (.slice Aa b.attrs.length ca)) 57 ∧ aH w' gY (dj b.addr b.aff (.slice As b.slots.length cs) (.slice Ap b.free.length cp) (.slice Am M.length cm)) 62 ∧ aH w' gA [.string a.f0, .string a.f1] 76 ∧ aH w' gQ (aU nb.addr nb.aff nb.slots (.slice A8 nb.free.length c8) (.slice A9 nb.attrs.length c9)) 57) (ds := []) #[false, false, false, false, false, false, false, false, false, false] (by kernel_rfl) rfl rfl ⟨hX.out, hY.out, hA.out, hQ.out⟩ (fun hHeld => ?_); refine bQ wI.tab7 wI.bits7 (fun ae bA => ?_)
 refine tk 0 ae.out bA.out hHeld ?_ (hv := by exact fun _ aZ => aQ 57 (.tmp 11) rfl gQ rfl _ _ _ aZ.2.2.2 Try.underlying57 rfl HLN.out)
 refine tk 1 ae.out bA.out hHeld ?_ (hv := by exact fun _ aZ => aQ 62 (.tmp 5) rfl gY rfl _ _ _ aZ.2.1 Try.underlying62 rfl (by kernel_rfl))
 refine pu 2 ae.out ?_
 refine tk 3 ae.out bA.out hHeld ?_ (hv := by exact fun _ aZ => aQ 76 (.tmp 7) rfl gA rfl _ _ _ aZ.2.2.1 Try.underlying76 rfl (by kernel_rfl))
 refine pu 5 ae.out ?_
 refine pu 6 ae.out ?_
 refine on 4 ae.out (fun K hK => ?_)
 refine gs Try.func107 #[.agg (dj b.addr b.aff (.slice As b.slots.length cs) (.slice Ap b.free.length cp) (.slice Am M.length cm)).toArray, .int .u32 x, .agg #[.string a.f0, .string a.f1]] (HRA.out _ _ ⟨M, As, cs, Ap, cp, Am, cm, rfl, (ki.of HM.out hS.out hP.out hM.out)⟩) ?_
 rintro e V4 ⟨v9, rfl, eG, I⟩
 refine ⟨_, rfl, ?_⟩
 have hRQ := ak (eU.lower' eG (lb HBASE hB)); replace hB := mv I hB; replace hF := mv I hF; replace hG := mv I hG; replace hS := mv I hS; replace hP := mv I hP; replace hM := mv I hM; replace hX := mv I hX; replace hY := mv I hY; replace hA := mv I hA; replace hZ := mv I hZ; replace hU := mv I hU; replace hQ := mv I hQ; replace hC := mv I hC; replace hD := mv I hD; clear eG I; have XM := hRQ.out; obtain ⟨wz, sx, sA, rfl, gz, fp, eH⟩ := XM; obtain ⟨A1, c1, rfl⟩ := Kd.R_slice gz; obtain ⟨A2, c2, rfl⟩ := Kd.R_slice fp; obtain ⟨NM, hNM⟩ : ∃ NM, NM = nb.attrs.map vc := ⟨_, rfl⟩; rw [← hNM] at eH; have HNM := ak hNM; obtain ⟨A3, c3, rfl⟩ := Kd.R_slice eH; have hI := ak gz; have hJ := ak fp; have hT := ak eH; clear hRQ hNM gz fp eH
 refine kn hK ⟨hX.out, hY.out, hA.out, hQ.out⟩ (fun hHeld => ?_)
 clear hK K
 refine ow 7 ae.out (fun K hK => ?_)
 refine bJ (by rfl) rfl 57 (.tmp 8) (.tmp 55) rfl gZ (aU nb.addr nb.aff nb.slots (.slice A8 nb.free.length c8) (.slice A9 nb.attrs.length c9)) rfl rfl 57 _ hZ.out 68 (by kernel_rfl) (ah _ _ _ _ _ HNL.out) rfl (b7 _ _ _ _ _ rfl rfl) ?_
 intro V7 aa J; replace hB := gb hB cb J; replace hF := gr hF hZ J; replace hG := gr hG hZ J; replace hS := gr hS hZ J; replace hP := gr hP hZ J; replace hM := gr hM hZ J; replace hX := gn hX aG J; replace hY := gx hY hZ J; replace hA := gx hA hZ J; replace hU := gx hU hZ J; replace hQ := gm hQ a7 J; replace hC := gr hC hZ J; replace hD := gr hD hZ J; replace hI := gr hI hZ J; replace hJ := gr hJ hZ J; replace hT := gr hT hZ J; replace hZ := ak (aa); clear aa J
 refine hK.out _ _ ⟨hX.out, hY.out, hA.out, hQ.out⟩ (fun hHeld => ?_)
 clear hK K
 refine ow 8 ae.out (fun K hK => ?_)
 refine bJ (by rfl) rfl 62 (.tmp 9) (.tmp 59) rfl gU (dj nb.addr nb.aff (.slice A1 nb.slots.length c1) (.slice A2 nb.free.length c2) (.slice A3 NM.length c3)) rfl rfl 62 _ hU.out 5 (by kernel_rfl) rfl rfl (dM _ _ rfl rfl rfl) ?_
 intro V8 aa J; replace hB := gb hB fG J; replace hF := gr hF hU J; replace hG := gr hG hU J; replace hS := gr hS hU J; replace hP := gr hP hU J; replace hM := gr hM hU J; replace hX := gx hX hU J; replace hY := gn hY dw J; replace hA := gx hA hU J; replace hZ := gx hZ hU J; replace hQ := gx hQ hU J; replace hC := gr hC hU J; replace hD := gr hD hU J; replace hI := gr hI hU J; replace hJ := gr hJ hU J; replace hT := gr hT hU J; replace hU := ak (aa); clear aa J
 refine hK.out _ _ ⟨hX.out, hY.out, hA.out, hQ.out⟩ (fun hHeld => ?_)
 clear hK K
 refine pu 9 ae.out ?_
 refine dn ae.out ?_
 clear hHeld
 go_wp2_with fail
 refine bodyPost_ret (e6 rfl _ _ _ gZ gU 57 62 _ _ _ _ rfl hZ.out rfl Try.underlying57 (by first | exact HLB.out | exact HLN.out) rfl hU.out rfl Try.underlying62 (by kernel_rfl)) rfl ⟨_, _, nb, rfl, ?_, ?_, ?_, hB.out⟩
 ·exact HRG.out
 ·exact ⟨HNL.out, _, _, rfl, hC.out, hD.out⟩
 ·exact ⟨_, _, _, rfl, hI.out, hJ.out, by rw [← HNM.out]; exact hT.out⟩
theorem E9 (b : Bk) (hg : RG b) (x : Int) (h0 : 0 ≤ x) (h1 : x < 4294967296) (a : ln) (eW : a.f0.size ≤ 9223372036854775807) (fA : a.f1.size ≤ 9223372036854775807) (v v2 : Value) (w : World) (base : Nat) (hbase : base ≤ w.heap.size) (hO : ey w base v b) (hR : eU w base v2 b) :
  Calls Try.prog 83 #[v, v2, .int .u32 x, .agg #[.string a.f0, .string a.f1]] w fun e w' => ∃ v1 v2 b', e = .returned (.tuple #[v1, v2, .bool true]) ∧ RG b' ∧ ey w' base v1 b' ∧ eU w' base v2 b' ∧ Below w.heap.size w w' := by
 cases hma : ep (cv a) with
 | false => exact E8 b hg x h0 h1 a eW fA hma v v2 w base hbase hO hR
 | true =>
  by_cases hin : b9 x = b.addr
  ·cases hh : jQ b x with
   | true => exact Cj b hg x h0 h1 a eW fA hma hin hh v v2 w base hbase hO hR
   | false => exact E6 b hg x h0 h1 a eW fA hma hin hh v v2 w base hbase hO hR
  ·exact E7 b hg x h0 h1 a eW fA hma hin v v2 w base hbase hO hR
end Go.Proofs.Ytemhalnhbgkbcaa.V
end

section
namespace Go.Proofs.Ytemhalnhbgkbcaa.V
set_option maxHeartbeats 8000000 in
set_option maxRecDepth 100000 in
theorem BU (a : At) (id : ByteArray) (g : Nat) (w : World) (h : aH w g [.string id] 9) : Calls Try.prog 97 #[.agg #[.string a.f0, .string a.f1], .pointer (some ⟨g, 0, none⟩)] w fun e w' => e = .returned (.bool (a.f0.toList == id.toList)) ∧ Below w.heap.size w w' := by
 go_enter Try.func97, Try.ntmps97
 go_wp2_with (refine aD rfl 85 (.tmp 0) rfl [.string a.f0, .string a.f1] rfl ?_; intro g1 W1 J aa I; have sf := aa.cell 0 _ rfl; have kr := (h.below I).cell 0 _ rfl; have HB := ak I; clear J aa I)
 go_ret
 exact ⟨rfl, HB.out⟩
set_option maxHeartbeats 8000000 in
set_option maxRecDepth 100000 in
theorem FJ (a : At) (id : ByteArray) (g : Nat) (w : World) (h : aH w g [.string id] 9) : Calls Try.prog 98 #[.agg #[.string a.f0, .string a.f1], .pointer (some ⟨g, 0, none⟩)] w fun e w' => e = .returned (.bool (a.f1.toList == id.toList)) ∧ Below w.heap.size w w' := by
 go_enter Try.func98, Try.ntmps98
 go_wp2_with (refine aD rfl 85 (.tmp 0) rfl [.string a.f0, .string a.f1] rfl ?_; intro g1 W1 J aa I; have sf := aa.cell 1 _ rfl; have kr := (h.below I).cell 0 _ rfl; have HB := ak I; clear J aa I)
 go_ret
 exact ⟨rfl, HB.out⟩
set_option maxHeartbeats 8000000 in
set_option maxRecDepth 100000 in
theorem EM (b : Bk) (hk : BkOk b) (hp : RightP b) (v : Value) (w : World) (h : iz w v b) (id : ByteArray) (g : Nat) (hid : aH w g [.string id] 9) :
  Calls Try.prog 96 #[v, .func (.func 97) #[] #[.pointer (some ⟨g, 0, none⟩)]] w fun e w' => ∃ vo, e = .returned vo ∧ Kd.R (Kd.int .u32) 46 w' w.heap.size (fun _ => True) vo (eD b (fun a => a.f0.toList == id.toList) 64) ∧ Below w.heap.size w w' := by
 obtain ⟨A, c, A', c', rfl, hr⟩ := h
 have HL := ak hr.l64
 have HR := ak hr
 have HK := ak hk
 have HP := ak hp
 have ag := ak (Below.refl w.heap.size w)
 have HLN := ak (show (Try.prog.info? 47).map (·.size) = some (b.slots.map (Value.int .u8)).length by rw [List.length_map, hr.l64]; kernel_rfl)
 have DG : 0 ≤ b.addr := hk.a0
 have lW : b.addr + 64 ≤ 4294967296 := by
  have h1 := hp.first
  have h2 := hk.a1
  unfold b9 at h1
  omega
 have HID := ak hid
 clear hid
 clear hr hk hp
 go_enter Try.func96, Try.ntmps96
 go_wp2_with (first
  | (refine aD rfl 57 (.tmp 0) rfl _ rfl ?_; intro gX W1 J aa I; have cg := ge ag J; have ao := ak (ag.out.trans (I.mono ag.out.size)); have aj := ak (aa); clear J aa I ag)
  | (refine fH rfl 47 (.tmp 8) rfl gX 2 rfl 57 _ (b.slots.map (Value.int .u8)) (.array 64 5) aj.out (mO _ _ _ _ _ HL.out) Try.underlying47 rfl HLN.out ?_))
 go_loopw [5, 6, 7, 10] (fun q _ _ i W => ∃ k : Nat, k ≤ 64 ∧ i = .int .i64 k ∧ Aside0 (aH W gX (aU b.addr b.aff b.slots (.slice A b.free.length c) (.slice A' b.attrs.length c')) 57) ∧ Aside0 (Kd.R (Kd.int .u32) 46 W w.heap.size (fun _ => True) q (eD b (fun a => a.f0.toList == id.toList) k)) ∧ Aside0 (Below w.heap.size w W)) (fun _ _ _ i _ => 64 - (intOf i).toNat)
 case atStart => exact ⟨0, by omega, rfl, aj, ⟨Kd.R_nil _ _ _ _ _⟩, ao⟩
 case round =>
  clear ao aj
  obtain ⟨k, hk, rfl, aM, bR, ag⟩ := hrel
  obtain ⟨W, rfl⟩ : ∃ W : World, W = wr := ⟨_, rfl⟩
  have hul := jK b (fun a => a.f0.toList == id.toList) k
  by_cases qJ : k < 64
  ·have hkb : decide ((k : Int) < 64) = true := by simp; omega
   have hkl : k < b.slots.length := by have := HL.out; omega
   have hus := tZ b (fun a => a.f0.toList == id.toList) k
   obtain ⟨oo, hoo⟩ : ∃ oo, oo = eD b (fun a => a.f0.toList == id.toList) k := ⟨_, rfl⟩
   rw [← hoo] at bR hus hul
   have HUL := ak (show oo.length ≤ 100 by omega)
   have hms := HK.out.s8 _ (List.getElem_mem hkl)
   have hml := HP.out.sa _ (List.getElem_mem hkl)
   have hna := HP.out.na
   have hge : b.slots.getD k 0 = b.slots[k] := by simp [List.getD, hkl]
   have hix := fun w => rm b.slots HL.out k qJ w
   rw [hge] at hix hus
   by_cases qI : b.slots[k] = 0
   ·rw [qI] at hix hus
    have HUS := ak (show eD b (fun a => a.f0.toList == id.toList) (k + 1) = oo by rw [hus]; simp)
    clear hus hms hml hge qI hoo hul
    go_wp2_with fail
    go_roundw
    case rel => exact ⟨k + 1, by omega, by go_num, aM, ⟨by rw [HUS.out]; exact bR.out⟩, ag⟩
    case measure => simp [intOf]; omega
   ·obtain ⟨m, hm⟩ : ∃ m : Nat, b.slots[k] = (m : Int) + 1 := ⟨(b.slots[k]).toNat - 1, by omega⟩
    have hheld : lV b k = gh b.attrs m := by
     unfold lV
     rw [hge, hm]
     congr 1
     omega
    rw [hm] at hix hus hml hms
    try rw [hheld] at hus
    have ht : (((m : Int) + 1) != 0) = true := by simp; omega
    have hma : m < b.attrs.length := by omega
    obtain ⟨ad, eA, ir, kp⟩ := l7 (HR.out.below ag.out).ar m (by omega) (by omega)
    cases eA
    rw [Int.toNat_natCast] at ir kp
    have p1 : ((m : Int) < (b.attrs.length : Int)) = True := eq_true (by omega)
    obtain ⟨a, ha⟩ : ∃ a : At, gh b.attrs m = a := ⟨_, rfl⟩
    have ha' : cI b.attrs (m : Int) = a := ha
    rw [ha'] at ir kp
    try rw [ha] at hus
    rw [ht, Bool.true_and] at hus
    have pL := aM.out.cell 67 _ (ft _ _ _ _ _ HL.out)
    obtain ⟨Ao, co, rfl⟩ := Kd.R_slice bR.out
    cases hpa : (a.f0.toList == id.toList) with
    | true =>
     have HPA := ak hpa
     obtain ⟨o1, eS⟩ : ∃ o1, o1 = oo ++ [b.addr + (k : Int)] := ⟨_, rfl⟩
     have ix := ak eS
     have HUS := ak (show eD b (fun a => a.f0.toList == id.toList) (k + 1) = o1 by rw [hus, eS]; simp [hpa])
     clear hus hms hml hge qI hoo hul hm hheld ha ha' eS hpa
     go_wp2_with (first
      | (go_at_call 97; refine (BU a id g _ (HID.out.below ag.out)).mono ?_; rintro e W1 ⟨rfl, I⟩; rw [HPA.out]; have aj := mv I aM; have cG := mv I bR; have ao := ak (ag.out.trans (I.mono ag.out.size)); have mg := aj.out.cell 0 _ rfl; clear I aM bR ag pL)
      | ((with_reducible refine bG (b := .append) (xs := #[.tmp 26, .tmp 32]) rfl ?_); at_builtin; refine Kd.R_append (Kd.int .u32) (w0 := w) w.heap.size rfl (.tmp 26) (.tmp 32) 77 46 (.int .u32 0) 4 rfl Try.underlying77 jL rfl (by decide) (by omega) _ oo (b.addr + (k : Int)) [.int .u32 (b.addr + (k : Int))] (fun _ => True) (fun _ => False) rfl rfl rfl (fun _ hk => hk.elim) (fun _ _ => trivial) cG.out ao.out ao.out.size (by have := HUL.out; omega) ?_; intro v_ W2 aW I J fP; rw [← ix.out] at aW; have aw := ak (aj.out.grown J (aj.out.ne_row cG.out (by decide))); have cJ := ak (aW); have ay := ak (I); obtain ⟨AO, cO, rfl⟩ := Kd.R_slice aW; clear aW I J fP aj cG ao mg))
     go_roundw
     case rel => exact ⟨k + 1, by omega, by go_num, aw, ⟨by rw [HUS.out]; exact cJ.out⟩, ay⟩
     case measure => simp [intOf]; omega
    | false =>
     have HPA := ak hpa
     have HUS := ak (show eD b (fun a => a.f0.toList == id.toList) (k + 1) = oo by rw [hus]; simp [hpa])
     clear hus hms hml hge qI hoo hul hm hheld ha ha' hpa
     go_wp2_with (first
      | (go_at_call 97; refine (BU a id g _ (HID.out.below ag.out)).mono ?_; rintro e W1 ⟨rfl, I⟩; rw [HPA.out]; have aj := mv I aM; have cG := mv I bR; have ao := ak (ag.out.trans (I.mono ag.out.size)); clear I aM bR ag pL))
     go_roundw
     case rel => exact ⟨k + 1, by omega, by go_num, aj, ⟨by rw [HUS.out]; exact cG.out⟩, ao⟩
     case measure => simp [intOf]; omega
  ·obtain rfl : k = 64 := by omega
   rw [show ((64 : Nat) : Int) = (64 : Int) from rfl]
   have hkb : decide ((64 : Int) < 64) = false := by decide
   go_wp2
   go_ret
   exact ⟨_, rfl, bR.out, ag.out⟩
set_option maxHeartbeats 8000000 in
set_option maxRecDepth 100000 in
theorem Hk (b : Bk) (hk : BkOk b) (hp : RightP b) (v : Value) (w : World) (h : iz w v b) (id : ByteArray) (g : Nat) (hid : aH w g [.string id] 9) :
  Calls Try.prog 96 #[v, .func (.func 98) #[] #[.pointer (some ⟨g, 0, none⟩)]] w fun e w' => ∃ vo, e = .returned vo ∧ Kd.R (Kd.int .u32) 46 w' w.heap.size (fun _ => True) vo (eD b (fun a => a.f1.toList == id.toList) 64) ∧ Below w.heap.size w w' := by
 obtain ⟨A, c, A', c', rfl, hr⟩ := h
 have HL := ak hr.l64
 have HR := ak hr
 have HK := ak hk
 have HP := ak hp
 have ag := ak (Below.refl w.heap.size w)
 have HLN := ak (show (Try.prog.info? 47).map (·.size) = some (b.slots.map (Value.int .u8)).length by rw [List.length_map, hr.l64]; kernel_rfl)
 have DG : 0 ≤ b.addr := hk.a0
 have lW : b.addr + 64 ≤ 4294967296 := by
  have h1 := hp.first
  have h2 := hk.a1
  unfold b9 at h1
  omega
 have HID := ak hid
 clear hid
 clear hr hk hp
 go_enter Try.func96, Try.ntmps96
 go_wp2_with (first
  | (refine aD rfl 57 (.tmp 0) rfl _ rfl ?_; intro gX W1 J aa I; have cg := ge ag J; have ao := ak (ag.out.trans (I.mono ag.out.size)); have aj := ak (aa); clear J aa I ag)
  | (refine fH rfl 47 (.tmp 8) rfl gX 2 rfl 57 _ (b.slots.map (Value.int .u8)) (.array 64 5) aj.out (mO _ _ _ _ _ HL.out) Try.underlying47 rfl HLN.out ?_))
 go_loopw [5, 6, 7, 10] (fun q _ _ i W => ∃ k : Nat, k ≤ 64 ∧ i = .int .i64 k ∧ Aside0 (aH W gX (aU b.addr b.aff b.slots (.slice A b.free.length c) (.slice A' b.attrs.length c')) 57) ∧ Aside0 (Kd.R (Kd.int .u32) 46 W w.heap.size (fun _ => True) q (eD b (fun a => a.f1.toList == id.toList) k)) ∧ Aside0 (Below w.heap.size w W)) (fun _ _ _ i _ => 64 - (intOf i).toNat)
 case atStart => exact ⟨0, by omega, rfl, aj, ⟨Kd.R_nil _ _ _ _ _⟩, ao⟩
 case round =>
  clear ao aj
  obtain ⟨k, hk, rfl, aM, bR, ag⟩ := hrel
  obtain ⟨W, rfl⟩ : ∃ W : World, W = wr := ⟨_, rfl⟩
  have hul := jK b (fun a => a.f1.toList == id.toList) k
  by_cases qJ : k < 64
  ·have hkb : decide ((k : Int) < 64) = true := by simp; omega
   have hkl : k < b.slots.length := by have := HL.out; omega
   have hus := tZ b (fun a => a.f1.toList == id.toList) k
   obtain ⟨oo, hoo⟩ : ∃ oo, oo = eD b (fun a => a.f1.toList == id.toList) k := ⟨_, rfl⟩
   rw [← hoo] at bR hus hul
   have HUL := ak (show oo.length ≤ 100 by omega)
   have hms := HK.out.s8 _ (List.getElem_mem hkl)
   have hml := HP.out.sa _ (List.getElem_mem hkl)
   have hna := HP.out.na
   have hge : b.slots.getD k 0 = b.slots[k] := by simp [List.getD, hkl]
   have hix := fun w => rm b.slots HL.out k qJ w
   rw [hge] at hix hus
   by_cases qI : b.slots[k] = 0
   ·rw [qI] at hix hus
    have HUS := ak (show eD b (fun a => a.f1.toList == id.toList) (k + 1) = oo by rw [hus]; simp)
    clear hus hms hml hge qI hoo hul
    go_wp2_with fail
    go_roundw
    case rel => exact ⟨k + 1, by omega, by go_num, aM, ⟨by rw [HUS.out]; exact bR.out⟩, ag⟩
    case measure => simp [intOf]; omega
   ·obtain ⟨m, hm⟩ : ∃ m : Nat, b.slots[k] = (m : Int) + 1 := ⟨(b.slots[k]).toNat - 1, by omega⟩
    have hheld : lV b k = gh b.attrs m := by
     unfold lV
     rw [hge, hm]
     congr 1
     omega
    rw [hm] at hix hus hml hms
    try rw [hheld] at hus
    have ht : (((m : Int) + 1) != 0) = true := by simp; omega
    have hma : m < b.attrs.length := by omega
    obtain ⟨ad, eA, ir, kp⟩ := l7 (HR.out.below ag.out).ar m (by omega) (by omega)
    cases eA
    rw [Int.toNat_natCast] at ir kp
    have p1 : ((m : Int) < (b.attrs.length : Int)) = True := eq_true (by omega)
    obtain ⟨a, ha⟩ : ∃ a : At, gh b.attrs m = a := ⟨_, rfl⟩
    have ha' : cI b.attrs (m : Int) = a := ha
    rw [ha'] at ir kp
    try rw [ha] at hus
    rw [ht, Bool.true_and] at hus
    have pL := aM.out.cell 67 _ (ft _ _ _ _ _ HL.out)
    obtain ⟨Ao, co, rfl⟩ := Kd.R_slice bR.out
    cases hpa : (a.f1.toList == id.toList) with
    | true =>
     have HPA := ak hpa
     obtain ⟨o1, eS⟩ : ∃ o1, o1 = oo ++ [b.addr + (k : Int)] := ⟨_, rfl⟩
     have ix := ak eS
     have HUS := ak (show eD b (fun a => a.f1.toList == id.toList) (k + 1) = o1 by rw [hus, eS]; simp [hpa])
     clear hus hms hml hge qI hoo hul hm hheld ha ha' eS hpa
     go_wp2_with (first
      | (go_at_call 98; refine (FJ a id g _ (HID.out.below ag.out)).mono ?_; rintro e W1 ⟨rfl, I⟩; rw [HPA.out]; have aj := mv I aM; have cG := mv I bR; have ao := ak (ag.out.trans (I.mono ag.out.size)); have mg := aj.out.cell 0 _ rfl; clear I aM bR ag pL)
      | ((with_reducible refine bG (b := .append) (xs := #[.tmp 26, .tmp 32]) rfl ?_); at_builtin; refine Kd.R_append (Kd.int .u32) (w0 := w) w.heap.size rfl (.tmp 26) (.tmp 32) 77 46 (.int .u32 0) 4 rfl Try.underlying77 jL rfl (by decide) (by omega) _ oo (b.addr + (k : Int)) [.int .u32 (b.addr + (k : Int))] (fun _ => True) (fun _ => False) rfl rfl rfl (fun _ hk => hk.elim) (fun _ _ => trivial) cG.out ao.out ao.out.size (by have := HUL.out; omega) ?_; intro v_ W2 aW I J fP; rw [← ix.out] at aW; have aw := ak (aj.out.grown J (aj.out.ne_row cG.out (by decide))); have cJ := ak (aW); have ay := ak (I); obtain ⟨AO, cO, rfl⟩ := Kd.R_slice aW; clear aW I J fP aj cG ao mg))
     go_roundw
     case rel => exact ⟨k + 1, by omega, by go_num, aw, ⟨by rw [HUS.out]; exact cJ.out⟩, ay⟩
     case measure => simp [intOf]; omega
    | false =>
     have HPA := ak hpa
     have HUS := ak (show eD b (fun a => a.f1.toList == id.toList) (k + 1) = oo by rw [hus]; simp [hpa])
     clear hus hms hml hge qI hoo hul hm hheld ha ha' hpa
     go_wp2_with (first
      | (go_at_call 98; refine (FJ a id g _ (HID.out.below ag.out)).mono ?_; rintro e W1 ⟨rfl, I⟩; rw [HPA.out]; have aj := mv I aM; have cG := mv I bR; have ao := ak (ag.out.trans (I.mono ag.out.size)); clear I aM bR ag pL))
     go_roundw
     case rel => exact ⟨k + 1, by omega, by go_num, aj, ⟨by rw [HUS.out]; exact cG.out⟩, ao⟩
     case measure => simp [intOf]; omega
  ·obtain rfl : k = 64 := by omega
   rw [show ((64 : Nat) : Int) = (64 : Int) from rfl]
   have hkb : decide ((64 : Int) < 64) = false := by decide
   go_wp2
   go_ret
   exact ⟨_, rfl, bR.out, ag.out⟩
end Go.Proofs.Ytemhalnhbgkbcaa.V
end

section
namespace Go.Proofs.Ytemhalnhbgkbcaa.V
def yz : List Int := List.replicate 65 0
theorem MA (w : World) : (zeroValue 146).run Try.prog w = .ok (.agg (yz.map (Value.int .u8)).toArray) w := by kernel_rfl
theorem FB (l : List Int) (i : Nat) (h : i < l.length) : (l.map (Value.int .u8))[i]? = some (.int .u8 (l.getD i 0)) := by simp [List.getD, h]
set_option maxHeartbeats 16000000 in
set_option maxRecDepth 100000 in
theorem Fc (b : Bk) (hs : fV b.slots) (hn : b.attrs.length ≤ 64) (hle : ∀ s ∈ b.slots, s ≤ (b.attrs.length : Int)) (v : Value) (w : World) (base : Nat) (ks : base ≤ w.heap.size) (h : ey w base v b) :
  Calls Try.prog 95 #[v] w fun e w' => ∃ v', e = .returned v' ∧ ey w' base v' (lu b) ∧ Below w.heap.size w w' := by
 obtain ⟨hl, vf, va, rfl, hrf, hra⟩ := h
 obtain ⟨A, c, rfl⟩ := Kd.R_slice hrf
 obtain ⟨A', c', rfl⟩ := Kd.R_slice hra
 have HC := ak (Kd.R_reads' hra).2.2
 have HRF := ak hrf
 have Yk := ak ks
 have HL := ak hl
 have HS := ak hs
 have HLE := ak hle
 have ag := ak (Below.refl w.heap.size w)
 have HLN := ak (show (Try.prog.info? 47).map (·.size) = some (b.slots.map (Value.int .u8)).length by rw [List.length_map, hl]; kernel_rfl)
 clear hrf hra ks hl hs hle
 go_enter Try.func95, Try.ntmps95
 go_wp2_with (first
  | (refine aD rfl 57 (.tmp 0) rfl _ rfl ?_; intro gX W1 J aa I; have cg := ge ag J; have ao := ak (ag.out.trans (I.mono ag.out.size)); have aj := ak (aa); clear J aa I ag)
  | (refine au (some 2) rfl rfl 57 rfl a6 bT ?_; intro gZ W2 J aa I; have cb := ge ao J; have aG := ne aj J; have ay := mv I ao; have aw := mv I aj; have cD := ak (aa); clear J aa I ao aj)
  | (refine au (some 3) rfl rfl 146 rfl (yz.map (Value.int .u8)) MA ?_; intro gT W3 J aa I; have kE := ge ay J; have ie := ne aw J; have TS := ne cD J; have aE := mv I ay; have aC := mv I aw; have cd := mv I cD; have dN := ak (aa); clear J aa I ay aw cD)
  | (refine fH rfl 47 (.tmp 12) rfl gX 2 rfl 57 _ (b.slots.map (Value.int .u8)) (.array 64 5) aC.out (mO _ _ _ _ _ HL.out) Try.underlying47 rfl HLN.out ?_))
 go_loopw [5, 7, 14] (fun u _ i W => ∃ k : Nat, k ≤ 64 ∧ i = .int .i64 k ∧ u = .int .u64 ((gp (b.slots.take k) : Nat) : Int) ∧ Aside0 (aH W gX (aU b.addr b.aff b.slots (.slice A b.free.length c) (.slice A' b.attrs.length c')) 57) ∧ Aside0 (aH W gZ a6 57) ∧ Aside0 (aH W gT (yz.map (Value.int .u8)) 146) ∧ Aside0 (Below w.heap.size w W)) (fun _ _ i _ => 64 - (intOf i).toNat)
 case atStart => exact ⟨0, by omega, rfl, rfl, aC, cd, dN, aE⟩
 case round =>
  clear aC cd dN aE
  obtain ⟨k, hk, rfl, rfl, aM, bC, mm, ag⟩ := hrel
  obtain ⟨W, rfl⟩ : ∃ W : World, W = wr := ⟨_, rfl⟩
  by_cases qJ : k < 64
  ·have hkb : decide ((k : Int) < 64) = true := by simp; omega
   have hkl : k < b.slots.length := by have := HL.out; omega
   obtain ⟨m, hm⟩ : ∃ m : Nat, b.slots[k] = (m : Int) := ⟨(b.slots[k]).toNat, by have := (HS.out _ (List.getElem_mem hkl)).1; omega⟩
   have r8 : m < 256 := by have := (HS.out _ (List.getElem_mem hkl)).2; omega
   have hix := fun w => rm b.slots HL.out k qJ w
   rw [show b.slots.getD k 0 = (m : Int) by rw [← hm]; simp [List.getD, hkl]] at hix
   have HU := ak (Hj b.slots k hkl m hm)
   clear hm
   go_wp2_with (go_at_call 21; refine (QU (gp (b.slots.take k)) (qj _) _ _).mono ?_; rintro e W1 ⟨rfl, I⟩; rw [HU.out]; have aj := mv I aM; have bU := mv I bC; have iL := mv I mm; have ao := ak (ag.out.trans (I.mono ag.out.size)); clear I aM bC mm ag)
   go_roundw
   case rel => exact ⟨k + 1, by omega, by go_num, rfl, aj, bU, iL, ao⟩
   case measure => simp [intOf]; omega
  ·obtain rfl : k = 64 := by omega
   rw [show ((64 : Nat) : Int) = (64 : Int) from rfl]
   have hkb : decide ((64 : Int) < 64) = false := by decide
   have T5 := ak (show b.slots.take 64 = b.slots from List.take_of_length_le (by have := HL.out; omega))
   rw [T5.out]
   have pL := aM.out.cell 67 _ (ft _ _ _ _ _ HL.out)
   obtain ⟨us, hus⟩ : ∃ us, us = gp b.slots := ⟨_, rfl⟩
   rw [← hus]
   have HUS := ak hus
   have HUL := ak (show us < 18446744073709551616 by rw [hus]; exact qj _)
   rw [show yz = il b.slots 0 from (CK b.slots).symm] at mm
   clear hus
   go_wp2_with fail
   clear pL
   go_loopw [4, 8, 9, 26] (fun q _ _ i W => ∃ k : Nat, k ≤ b.attrs.length ∧ i = .int .i64 k ∧ Aside0 (aH W gX (aU b.addr b.aff b.slots (.slice A b.free.length c) (.slice A' b.attrs.length c')) 57) ∧ Aside0 (aH W gZ a6 57) ∧ Aside0 (aH W gT ((il b.slots k).map (Value.int .u8)) 146) ∧ Aside0 (Kd.R ju 85 W w.heap.size (fun _ => True) q (jf b k)) ∧ Aside0 (Below w.heap.size w W)) (fun _ _ _ i _ => b.attrs.length - (intOf i).toNat)
   case atStart => exact ⟨0, by omega, rfl, aM, bC, mm, ⟨Kd.R_nil _ _ _ _ _⟩, ag⟩
   case round =>
    clear aM bC mm ag
    obtain ⟨k, hk, rfl, aM, bC, mm, ob, ag⟩ := hrel
    obtain ⟨W, rfl⟩ : ∃ W : World, W = wr := ⟨_, rfl⟩
    by_cases hkn : k < b.attrs.length
    ·have hkb : decide ((k : Int) < (b.attrs.length : Int)) = true := by simp; omega
     obtain ⟨ad, eA, ir, kp⟩ := l7 (Kd.C_below HC.out ag.out) k (by omega) (by omega)
     cases eA
     rw [Int.toNat_natCast] at ir kp
     have p1 : ((k : Int) < (b.attrs.length : Int)) = True := eq_true (by omega)
     obtain ⟨a, ha⟩ : ∃ a : At, gh b.attrs k = a := ⟨_, rfl⟩
     have ha' : cI b.attrs (k : Int) = a := ha
     rw [ha'] at ir kp
     have HAT := ak ha
     obtain ⟨kn, vD⟩ : ∃ kn, kn = jf b k := ⟨_, rfl⟩
     have HKN := ak vD
     have HKL := ak (show kn.length ≤ k by rw [vD, mJ]; exact ye _ _)
     rw [← vD] at ob
     obtain ⟨Ak, ck, rfl⟩ := Kd.R_slice ob.out
     have HHS := ak (show hasB us (k : Int) = dW b.slots k by rw [HUS.out]; exact Kg b.slots k (by omega))
     clear ha ha' vD
     cases hu : dW b.slots k with
     | false =>
      rw [hu] at HHS
      have du := ak (show kn = jf b (k + 1) by rw [qR, hu, HKN.out]; simp)
      have HTU := ak (EO b.slots k hu)
      clear hu
      go_wp2_with (first
       | (refine au (some 9) rfl rfl 85 rfl [.string ⟨#[]⟩, .string ⟨#[]⟩] (fun _ => by kernel_rfl) ?_; intro gV W1 J aa I; have db := ge ag J; have fx := ne aM J; have ku := ne bC J; have vL := ne mm J; have aj := mv I aM; have bU := mv I bC; have iL := mv I mm; have uu := ak (Kd.R_mono (ok' := fun k_ => k_ ≠ gV) (Kd.R_below (Kd.R_bound ob.out) I) (fun k_ dc e_ => by have h_ := dc.2.2.1; omega)); have ao := ak (ag.out.trans (I.mono ag.out.size)); have g9 := ak (aa); clear J aa I aM bC mm ob ag)
       | (refine aK rfl 85 (.tmp 9) (.tmp 30) rfl gV [.string a.f0, .string a.f1] rfl rfl 85 _ g9.out 2 (by kernel_rfl) rfl rfl (jx a) ?_; intro W2 aa J; have aw := gx aj g9 J; have cD := gx bU g9 J; have uq := gx iL g9 J; have yv := ak (Kd.R_mono (ok' := fun _ => True) (Kd.R_grown uu.out J (fun k_ dc e_ => dc (Option.some.inj e_))) (fun _ _ => trivial)); have ay := gb ao db J; have dJ := ak (aa); clear aa J aj bU iL uu ao g9)
       | (go_at_call 20; refine (Ln us HUL.out (k : Int) _).mono ?_; rintro e W3 ⟨rfl, I⟩; rw [HHS.out]; have aC := mv I aw; have cd := mv I cD; have dN := mv I uq; have yu := mv I yv; have aE := mv I ay; have kF := mv I dJ; clear I aw cD uq yv ay dJ))
      go_roundw
      case rel => exact ⟨k + 1, by omega, by go_num, aC, cd, ⟨by rw [HTU.out]; exact dN.out⟩, ⟨by rw [← du.out]; exact yu.out⟩, aE⟩
      case measure => simp [intOf]; omega
     | true =>
      rw [hu] at HHS
      obtain ⟨k1, Lj⟩ : ∃ k1, k1 = kn ++ [a] := ⟨_, rfl⟩
      have du := ak (show k1 = jf b (k + 1) by rw [Lj, qR, hu, if_pos rfl, HKN.out, HAT.out])
      have xb := ak Lj
      have HTU := ak (CL b.slots k (by omega) hu)
      have HRK := ak (show (k1.length : Int) = ((fF b.slots (k + 1) : Nat) : Int) by rw [du.out, mJ])
      have Y0 : k1.length ≤ 64 := by rw [Lj, List.length_append, List.length_singleton]; have := HKL.out; omega
      have pt : ((k : Int) + 1 < 65) = True := eq_true (by omega)
      clear hu Lj
      go_wp2_with (first
       | (refine au (some 9) rfl rfl 85 rfl [.string ⟨#[]⟩, .string ⟨#[]⟩] (fun _ => by kernel_rfl) ?_; intro gV W1 J aa I; have db := ge ag J; have fx := ne aM J; have ku := ne bC J; have vL := ne mm J; have aj := mv I aM; have bU := mv I bC; have iL := mv I mm; have uu := ak (Kd.R_mono (ok' := fun k_ => k_ ≠ gV) (Kd.R_below (Kd.R_bound ob.out) I) (fun k_ dc e_ => by have h_ := dc.2.2.1; omega)); have ao := ak (ag.out.trans (I.mono ag.out.size)); have g9 := ak (aa); clear J aa I aM bC mm ob ag)
       | (refine aK rfl 85 (.tmp 9) (.tmp 30) rfl gV [.string a.f0, .string a.f1] rfl rfl 85 _ g9.out 2 (by kernel_rfl) rfl rfl (jx a) ?_; intro W2 aa J; have aw := gx aj g9 J; have cD := gx bU g9 J; have uq := gx iL g9 J; have yv := ak (Kd.R_mono (ok' := fun _ => True) (Kd.R_grown uu.out J (fun k_ dc e_ => dc (Option.some.inj e_))) (fun _ _ => trivial)); have ay := gb ao db J; have dJ := ak (aa); clear aa J aj bU iL uu ao g9)
       | (go_at_call 20; refine (Ln us HUL.out (k : Int) _).mono ?_; rintro e W3 ⟨rfl, I⟩; rw [HHS.out]; have aC := mv I aw; have cd := mv I cD; have dN := mv I uq; have yu := mv I yv; have aE := mv I ay; have kF := mv I dJ; have nx := kF.out.cell 0 _ rfl; have mf := kF.out.cell 1 _ rfl; clear I aw cD uq yv ay dJ)
       | ((with_reducible refine bG (b := .append) (xs := #[.tmp 34, .tmp 36]) rfl ?_); at_builtin; refine Kd.R_append ju (w0 := w) w.heap.size rfl (.tmp 34) (.tmp 36) 55 85 (.agg #[.string ⟨#[]⟩, .string ⟨#[]⟩]) 32 rfl Try.underlying55 xq rfl (by decide) (by omega) _ kn a [.string a.f0, .string a.f1] (fun _ => True) (fun _ => False) rfl rfl (xp _ _ _ _) (fun _ hk => hk.elim) (fun _ _ => trivial) yu.out aE.out aE.out.size (by have := HKL.out; omega) ?_; intro v_ W4 aW I J fP; rw [← xb.out] at aW; have aY := ak (aC.out.grown J (aC.out.ne_row yu.out (by decide))); have bd := ak (cd.out.grown J (cd.out.ne_row yu.out (by decide))); have dR := ak (dN.out.grown J (dN.out.ne_row yu.out (by decide))); have QB := ak (aW); have a8 := ak (I); obtain ⟨AK, cK, rfl⟩ := Kd.R_slice aW; have GB := dR.out.cell (k + 1) _ (FB _ _ (by rw [uv]; omega)); have Tx := dR.out.frozen (k + 1); clear aW I J fP aC cd dN yu aE nx mf))
      generalize bY : W4.setCell ⟨gT, k + 1, none⟩ (.int .u8 (k1.length : Int)) = W5; have J : W4.grownBy W5 (some gT) := (by rw [← bY]; exact bs _ _ _ _); have bc := gx aY dR J; have bI := gx bd dR J; have bB := ak (dR.out.set (k + 1) (.int .u8 (k1.length : Int))); have Ue := gr QB dR J; have bj := gb a8 kE J; rw [bY] at bB; clear bY J aY bd dR QB a8 GB Tx
      have HTT := ak (show aH W5 gT ((il b.slots (k + 1)).map (Value.int .u8)) 146 by have h_ := bB.out; rw [HRK.out, ← List.map_set, HTU.out] at h_; exact h_)
      go_roundw
      case rel => exact ⟨k + 1, by omega, by go_num, bc, bI, HTT, ⟨by rw [← du.out]; exact Ue.out⟩, bj⟩
      case measure => simp [intOf]; omega
    ·obtain rfl : k = b.attrs.length := by omega
     have hkb : decide ((b.attrs.length : Int) < (b.attrs.length : Int)) = false := by simp
     obtain ⟨Ak, ck, rfl⟩ := Kd.R_slice ob.out
     obtain ⟨kn, vD⟩ : ∃ kn, kn = jf b b.attrs.length := ⟨_, rfl⟩
     rw [← vD] at ob
     have HKN := ak vD
     rw [show (jf b b.attrs.length).length = kn.length by rw [vD]]
     clear vD
     go_wp2_with (refine fH rfl 47 (.tmp 45) rfl gX 2 rfl 57 _ (b.slots.map (Value.int .u8)) (.array 64 5) aM.out (mO _ _ _ _ _ HL.out) Try.underlying47 rfl HLN.out ?_)
     go_loopw [10, 11, 47] (fun _ _ i W => ∃ k : Nat, k ≤ 64 ∧ i = .int .i64 k ∧ Aside0 (aH W gX (aU b.addr b.aff (ud b.slots k) (.slice A b.free.length c) (.slice A' b.attrs.length c')) 57) ∧ Aside0 (aH W gZ a6 57) ∧ Aside0 (aH W gT ((il b.slots b.attrs.length).map (Value.int .u8)) 146) ∧ Aside0 (Kd.R ju 85 W w.heap.size (fun _ => True) (.slice Ak kn.length ck) kn) ∧ Aside0 (Below w.heap.size w W)) (fun _ _ i _ => 64 - (intOf i).toNat)
     case atStart => exact ⟨0, by omega, rfl, aM, bC, mm, ob, ag⟩
     case round =>
      clear aM bC mm ob ag
      obtain ⟨k, hk, rfl, aM, bC, mm, ob, ag⟩ := hrel
      obtain ⟨W, rfl⟩ : ∃ W : World, W = wr := ⟨_, rfl⟩
      have HLM := ak (show (ud b.slots k).length = 64 by rw [EZ]; exact HL.out)
      by_cases qJ : k < 64
      ·have hkb : decide ((k : Int) < 64) = true := by simp; omega
       have hkl : k < b.slots.length := by have := HL.out; omega
       have hms := HS.out _ (List.getElem_mem hkl)
       have hml := HLE.out _ (List.getElem_mem hkl)
       obtain ⟨m, hm⟩ : ∃ m : Nat, b.slots[k] = (m : Int) := ⟨(b.slots[k]).toNat, by omega⟩
       have r8 : m < 65 := by omega
       have hix := fun w => rm b.slots HL.out k qJ w
       rw [show b.slots.getD k 0 = (m : Int) by rw [← hm]; simp [List.getD, hkl]] at hix
       have hrk := EN b.slots b.attrs.length b.slots[k] (List.getElem_mem hkl) hms.1 hml (by omega)
       have hst := JT b.slots k hkl
       rw [hm, Int.toNat_natCast] at hrk hst
       obtain ⟨r, hr⟩ : ∃ r, r = fF b.slots m := ⟨_, rfl⟩
       rw [← hr] at hrk hst
       have pI : r < 256 := by rw [hr]; have := ye b.slots m; omega
       have HST := ak hst
       have GB := mm.out.cell m _ (FB _ _ (by rw [uv]; omega))
       rw [hrk] at GB
       have J3 := aM.out.slot HLM.out k qJ
       have J2 := aM.out.frozen (2 + k)
       have pm : ((m : Int) < 65) = True := eq_true (by omega)
       have pk : ((k : Int) < 64) = True := eq_true (by omega)
       clear hm hrk hst hr hms hml
       go_wp2_with fail
       generalize bY : W.setCell ⟨gX, 2 + k, none⟩ (.int .u8 (r : Int)) = W1; have J : W.grownBy W1 (some gX) := (by rw [← bY]; exact bs _ _ _ _); have aj := ak (aM.out.set (2 + k) (.int .u8 (r : Int))); have bU := gm bC aG J; have iL := gx mm aM J; have uu := gr ob aM J; have ao := gb ag cg J; rw [bY] at aj; clear bY J aM bC mm ob ag GB J3 J2
       rw [sk _ _ _ _ _ HLM.out k qJ, HST.out] at aj
       go_roundw
       case rel => exact ⟨k + 1, by omega, by go_num, aj, bU, iL, uu, ao⟩
       case measure => simp [intOf]; omega
      ·obtain rfl : k = 64 := by omega
       rw [show ((64 : Nat) : Int) = (64 : Int) from rfl]
       have hkb : decide ((64 : Int) < 64) = false := by decide
       have hms : ud b.slots 64 = (lu b).slots := by
        have h_ := JU b.slots
        rwa [HL.out] at h_
       rw [hms] at aM HLM
       have HCB := ak (show lu b = ⟨b.addr, b.aff, (lu b).slots, b.free, kn⟩ by rw [HKN.out]; rfl)
       generalize (lu b).slots = sl at aM HLM HCB
       have J3 := aM.out.cell 67 _ (ft _ _ _ _ _ HLM.out)
       have J2 := aM.out.frozen 67
       clear hms
       go_wp2_with (first
        | ((with_reducible refine av (N := 60) rfl ?_); generalize bY : W.setCell ⟨gX, 67, none⟩ (.slice Ak kn.length ck) = W1; have J : W.grownBy W1 (some gX) := (by rw [← bY]; exact bs _ _ _ _); have aj := ak (aM.out.set 67 (.slice Ak kn.length ck)); have bU := gm bC aG J; have uu := gr ob aM J; have ao := gb ag cg J; rw [bY] at aj; clear bY J aM bC ob ag J3 J2; rw [qW _ _ _ _ _ HLM.out] at aj; refine az rfl 57 (.tmp 1) rfl gX rfl _ _ _ aj.out Try.underlying57 rfl 68 (by kernel_rfl) (ah _ _ _ _ _ HLM.out) ?_)
        | (refine aK rfl 57 (.tmp 2) (.tmp 60) rfl gZ (aU b.addr b.aff sl (.slice A b.free.length c) (.slice Ak kn.length ck)) rfl rfl 57 _ bU.out 68 (by kernel_rfl) (ah _ _ _ _ _ HLM.out) rfl (b7 _ _ _ _ _ rfl rfl) ?_; intro W2 aa J; have aw := gn aj aG J; have cD := ak (aa); have yv := gr uu bU J; have ay := gb ao cb J; clear aa J aj bU uu ao))
       refine bodyPost_ret (results_cell_row rfl _ _ gZ 57 _ (0, 0) _ rfl cD.out Try.underlying57 rfl (by simp only [List.size_toArray]; exact ch _ (ah _ _ _ _ _ HLM.out))) rfl ⟨_, rfl, ?_, ay.out⟩
       rw [HCB.out]
       exact ⟨HLM.out, _, _, rfl, Kd.R_below HRF.out ay.out, Kd.R_lower yv.out Yk.out⟩
end Go.Proofs.Ytemhalnhbgkbcaa.V
end

