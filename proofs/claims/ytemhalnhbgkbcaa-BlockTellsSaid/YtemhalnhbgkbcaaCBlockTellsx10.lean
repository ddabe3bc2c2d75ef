/- The law BlockTells for every input: texts of ours, put together (part 11 of 16). No further condition. -/
import Derived.Test.YtemhalnhbgkbcaaCBlockTellsx2
import Derived.Test.YtemhalnhbgkbcaaCBlockTellsx6
import Derived.Test.YtemhalnhbgkbcaaCBlockTellsx9
import Derived.Test.YtemhalnhbgkbcaaCBlockTellsx8
import Derived.Test.YtemhalnhbgkbcaaCBlockTellsx4
import Derived.Outline
import Derived.Test.YtemhalnhbgkbcaaCBlockTellsx7
set_option linter.unusedVariables false
set_option linter.unusedSimpArgs false
open Go.RowKit Go.Proofs.YtemhalnhbgkbcaaW.PrintWords Go.Proofs.YtemhalnhbgkbcaaW.PrintLast Go.Proofs.YtemhalnhbgkbcaaW.PrintMore Go.Proofs.Ytemhalnhbgkbcaa.Z
section
namespace Go.Proofs.Ytemhalnhbgkbcaa.V
theorem eK {fn : Func} {p p' u : Tmp} {ty ty' : TypeId} (h : fn.results = #[.cell p ty, .cell p' ty', .tmp u]) (tmps : Array Value) (P : Program) (w : World) (g g' : Nat) (t t' : TypeId) (cs cs' : List Value) (d d' : TypeDesc)
  (hp : tmps.getD p undef = .pointer (some ⟨g, 0, none⟩)) (hg : aH w g cs t)
  (hd : (match d with | .struct _ | .array _ _ => true | _ => false) = true) (hu : P.underlying ty = some d) (hi : (P.info? ty).map (·.size) = some cs.length)
  (hp' : tmps.getD p' undef = .pointer (some ⟨g', 0, none⟩)) (hg' : aH w g' cs' t')
  (hd' : (match d' with | .struct _ | .array _ _ => true | _ => false) = true) (hu' : P.underlying ty' = some d') (hi' : (P.info? ty').map (·.size) = some cs'.length) :
  (results fn tmps).run P w = .ok (.tuple #[.agg cs.toArray, .agg cs'.toArray, tmps.getD u undef]) w :=
 Aj (rs := [.cell p ty, .cell p' ty', .tmp u]) h (by simp) (.cell g t cs.toArray (0, 0) d hp hg hu (by cases d <;> exact hd) (by simpa using hi) (.cell g' t' cs'.toArray (0, 0) d' hp' hg' hu' (by cases d' <;> exact hd') (by simpa using hi') (.tmp .nil)))
theorem eG.lower' {W : World} {b1 b2 : Nat} {v : Value} {b : Bk} (h : eG W b1 v b) (hb : b2 ≤ b1) : eG W b2 v b := by
 obtain ⟨vs, vf, va, rfl, h1, h2, h3⟩ := h
 exact ⟨vs, vf, va, rfl, Kd.R_lower h1 hb, Kd.R_lower h2 hb, Kd.R_lower h3 hb⟩
theorem td (b : Bk) (M : List kz) (As Ap Am : Option Addr) (cs cp cm : Nat) (w : World) (hr : RbR w b M As cs Ap cp Am cm) (x : Int) (h0 : 0 ≤ x) (h1 : x < 4294967296) :
  Calls Try.prog 100 #[.agg (da b.addr b.aff (.slice As b.slots.length cs) (.slice Ap b.free.length cp) (.slice Am M.length cm)).toArray, .int .u32 x] w fun e w' => e = .returned (.bool (decide (bV x = b.addr))) ∧ Below w.heap.size w w' :=
 fz.calls _ _ _ _ _ _ _ _ _ _ _ x _ w hr.sr hr.sc hr.fr hr.fc hr.ar hr.ac (Ll b M x h0 h1)
theorem qj (a : kz) (h0 : a.f0.size ≤ 9223372036854775807) (h1 : a.f1.size ≤ 9223372036854775807) (w : World) :
  Calls Try.prog 60 #[.agg #[.string a.f0, .string a.f1]] w fun e w' => e = .returned (.bool (eo (cv a))) ∧ Below w.heap.size w w' :=
 jW.calls 9223372036854775808 a.f0 a.f1 _ w (EM a.f0 a.f1 h0 h1 _ (Nat.le_refl _))
def nx.T1 : Bool × List (List Nat × List Nat) := (true, [([], []), ([], []), ([], []), ([2], [2]), ([0, 1, 3, 3], [0, 1, 3]), ([4], [4]), ([5], [5]), ([5], [5]), ([], []), ([8, 6, 4, 0, 1, 2, 3, 4, 5, 6, 8], [6, 8]), ([7, 9, 0, 1, 2, 3, 4, 5, 6, 7, 8, 9], [7])])
def nx.B1 : List Nat := [0, 0, 0, 4, 15, 31, 63, 63, 0, 383, 1023]
theorem nx.tab1 : dC .any (opsOf Try.f83 1) = nx.T1 := by kernel_rfl
theorem nx.bits1 : cU nx.T1.2 nx.B1 = true := by kernel_rfl
def sh.T3 : Bool × List (List Nat × List Nat) := (true, [([], []), ([], []), ([], []), ([2], [2]), ([3], [3]), ([4], [4]), ([5, 4, 4], [4, 5]), ([4, 6], [4, 6]), ([0, 6, 0], [0]), ([1, 8, 0, 1, 8], [1]), ([7, 9, 0, 1, 2, 3, 4, 5, 6, 7, 8, 9], [7])])
def sh.B3 : List Nat := [0, 0, 0, 4, 12, 28, 60, 124, 125, 383, 1023]
theorem sh.tab3 : dC .any (opsOf Try.f83 3) = sh.T3 := by kernel_rfl
theorem sh.bits3 : cU sh.T3.2 sh.B3 = true := by kernel_rfl
def uf.T6 : Bool × List (List Nat × List Nat) := (true, [([], []), ([], []), ([], []), ([2], [2]), ([3], [3]), ([4], [4]), ([5, 4, 4], [4, 5]), ([4, 6], [4, 6]), ([0, 6, 0], [0]), ([1, 8, 0, 1, 8], [1]), ([7, 9, 0, 1, 2, 3, 4, 5, 6, 7, 8, 9], [7])])
def uf.B6 : List Nat := [0, 0, 0, 4, 12, 28, 60, 124, 125, 383, 1023]
theorem uf.tab6 : dC .any (opsOf Try.f83 6) = uf.T6 := by kernel_rfl
theorem uf.bits6 : cU uf.T6.2 uf.B6 = true := by kernel_rfl
def ue.T7 : Bool × List (List Nat × List Nat) := (true, [([], []), ([], []), ([], []), ([], []), ([1, 2, 3], [1, 2, 3]), ([], []), ([5], [5]), ([0, 4, 0], [0]), ([4, 7, 0, 1, 2, 3, 4, 7], [4]), ([6, 8, 0, 1, 2, 3, 4, 5, 6, 7, 8], [6])])
def ue.B7 : List Nat := [0, 0, 0, 0, 14, 0, 32, 31, 159, 511]
theorem ue.tab7 : dC .any (opsOf Try.f83 7) = ue.T7 := by kernel_rfl
theorem ue.bits7 : cU ue.T7.2 ue.B7 = true := by kernel_rfl
set_option maxHeartbeats 16000000 in
set_option maxRecDepth 100000 in
theorem CH (b : Bk) (hg : RG b) (x : Int) (h0 : 0 ≤ x) (h1 : x < 4294967296) (a : kz) (e7 : a.f0.size ≤ 9223372036854775807) (fE : a.f1.size ≤ 9223372036854775807) (hma : eo (cv a) = false) (v v2 : Value) (w : World) (base : Nat) (hbase : base ≤ w.heap.size) (hO : ea w base v b) (hR : eG w base v2 b) :
  Calls Try.prog 83 #[v, v2, .int .u32 x, .agg #[.string a.f0, .string a.f1]] w fun e w' => ∃ v1 v2 b', e = .returned (.tuple #[v1, v2, .bool true]) ∧ RG b' ∧ ea w' base v1 b' ∧ eG w' base v2 b' ∧ Below w.heap.size w w' := by
 obtain ⟨hl, vf, va, rfl, hf, ha⟩ := hO
 obtain ⟨vs, vp, vm, rfl, hs, hp, hm⟩ := hR
 obtain ⟨Af, cf, rfl⟩ := Kd.R_slice hf
 obtain ⟨Aa, ca, rfl⟩ := Kd.R_slice ha
 obtain ⟨As, cs, rfl⟩ := Kd.R_slice hs
 obtain ⟨Ap, cp, rfl⟩ := Kd.R_slice hp
 obtain ⟨M, hM⟩ : ∃ M, M = b.attrs.map vc := ⟨_, rfl⟩
 rw [← hM] at hm
 obtain ⟨Am, cm, rfl⟩ := Kd.R_slice hm
 have HL := ak hl
 have HM := ak hM
 have bw := ak hf
 have dY := ak ha
 have aX := ak hs
 have dT := ak hp
 have bD := ak hm
 have HG := ak hg
 have ae := ak (Below.refl w.heap.size w)
 have HBASE := ak hbase
 have HLB := ak (cg (aZ b.addr b.aff b.slots (.slice Af b.free.length cf) (.slice Aa b.attrs.length ca)) (ag _ _ _ _ _ HL.out))
 have hno : (eo (cv a) && decide (bV x = b.addr)) = false := by rw [hma]; rfl
 have e1 : pa b x (cv a) = false := by unfold pa; rw [hno, Bool.and_false]
 have e2 : qA b x (cv a) = 1 := by unfold qA; rw [if_neg (by rw [e1]; decide)]
 have e3 : mY b x (cv a) = jP := by unfold mY; rw [if_neg (by rw [e1]; decide)]
 have hat := fun v w h => nC b hg.ok x h0 h1 (cv a) v w h
 rw [e2, e3] at hat
 have hnl : jP.slots.length = 64 := rfl
 obtain ⟨nb, hnb⟩ : ∃ nb, nb = jP := ⟨_, rfl⟩
 rw [← hnb] at hat hnl
 have HNL := ak hnl
 have HAT := ak hat
 have HNB := ak hnb
 have HMY := ak (fun w => qj a e7 fE w)
 have HIN := ak (fun w h => td b M As Ap Am cs cp cm w h x h0 h1)
 have HOF := ak (fun w h => oe b hl hg.ok.s8 (fun s hs => (hg.s0 s hs).2) M As Ap Am cs cp cm w h x h0 h1)
 rw [hma] at HMY
 clear hma hno hl hM hf ha hs hp hm hg e1 e2 e3 hat hnl hnb hbase
 go_enter Try.func83, Try.ntmps83
 go_wp2_with (first
  | (refine aE rfl 57 (.tmp 0) rfl _ rfl ?_; intro gX W1 J aa I; have bQ := ge ae J; have ai := ak (ae.out.trans (I.mono ae.out.size)); have bp := mv I bw; have dp := mv I dY; have bd := mv I aX; have cZ := mv I dT; have bH := mv I bD; have ah := ak (aa); clear J aa I ae bw dY aX dT bD)
  | (refine aE rfl 62 (.tmp 1) rfl _ rfl ?_; intro gY W2 J aa I; have iX := ge ai J; have fB := ne ah J; have av := mv I ai; have bT := mv I bp; have dF := mv I dp; have bC := mv I bd; have dd := mv I cZ; have b9 := mv I bH; have au := mv I ah; have b8 := ak (aa); clear J aa I ai bp dp bd cZ bH ah)
  | (refine aE rfl 76 (.tmp 3) rfl _ rfl ?_; intro gA W3 J aa I; have ku := ge av J; have eD := ne au J; have vY := ne b8 J; have aD := mv I av; have cj := mv I bT; have dQ := mv I dF; have bU := mv I bC; have dA := mv I dd; have cN := ak (Kd.R_mono (ok' := fun k_ => True) (Kd.R_below b9.out I) (fun _ _ => trivial)); have aA := mv I au; have b7 := mv I b8; have dq := ak (aa); clear J aa I av bT dF bC dd b9 au b8)
  | (refine aw (some 8) rfl rfl 57 rfl a9 bP ?_; intro gZ W4 J aa I; have bN := ge aD J; have aG := ne aA J; have fM := ne b7 J; have gf := ne dq J; have aY := mv I aD; have ch := mv I cj; have dE := mv I dQ; have cx := mv I bU; have dX := mv I dA; have cR := mv I cN; have aV := mv I aA; have bZ := mv I b7; have dI := mv I dq; have a8 := ak (aa); clear J aa I aD cj dQ bU dA cN aA b7 dq)
  | (refine aw (some 9) rfl rfl 62 rfl dG (fun _ => by kernel_rfl) ?_; intro gU W5 J aa I; have fu := ge aY J; have gC := ne aV J; have dw := ne bZ J; have vZ := ne dI J; have gB := ne a8 J; have bf := mv I aY; have cb := mv I ch; have de := mv I dE; have cJ := mv I cx; have ee := mv I dX; have cG := mv I cR; have bb := mv I aV; have cB := mv I bZ; have eJ := mv I dI; have bu := mv I a8; have eH := ak (aa); clear J aa I aY ch dE cx dX cR aV bZ dI a8))
 have aj : Below W5.heap.size W5 W5.drew := bo (Below.refl _ _)
 have bG := mv aj bf; have cQ := mv aj cb; have dt := mv aj de; have cY := mv aj cJ; have ef := mv aj ee; have dD := mv aj cG; have bh := mv aj bb; have cX := mv aj cB; have fy := mv aj eJ; have bS := mv aj bu; have dW := mv aj eH
 clear aj bf cb de cJ ee cG bb cB eJ bu eH
 have hB := bG
 have hF := cQ
 have hG := dt
 have hS := cY
 have hP := ef
 have hM := dD
 have hX := bh
 have hY := cX
 have hA := fy
 have hZ := bS
 have hU := dW
 clear bG cQ dt cY ef dD bh cX fy bS dW
 refine cW (n := 11) (S := fun w' => aH w' gX (aZ b.addr b.aff b.slots (.slice Af b.free.length cf) (.slice Aa b.attrs.length ca)) 57 ∧ aH w' gA [.string a.f0, .string a.f1] 76) (ds := []) #[false, false, false, false, false, false, false, false, false, false, false] (by kernel_rfl) rfl rfl ⟨hX.out, hA.out⟩ (fun hHeld => ?_); refine bK nx.tab1 nx.bits1 (fun ab bj => ?_)
 refine tk 0 ab.out bj.out hHeld ?_ (hv := by exact fun _ aU => aI 57 (.tmp 4) rfl gX rfl _ _ _ aU.1 Try.underlying57 rfl HLB.out)
 refine pu 1 ab.out ?_
 refine tk 2 ab.out bj.out hHeld ?_ (hv := by exact fun _ aU => aI 76 (.tmp 7) rfl gA rfl _ _ _ aU.2 Try.underlying76 rfl (by kernel_rfl))
 refine pw (σ := Nat × Value) 2 #[true, true, true, true, true, true, true, true, true, false, false] (fun s => [(19, ej (cv a)), (20, .tuple #[s.2, .int .i64 1]), (15, .tuple #[s.2, .int .i64 1]), (21, s.2), (22, .int .i64 1), (11, .pointer (some ⟨s.1, 0, none⟩))]) (fun s w' => Aside0 (Below w.heap.size w w') ∧ Aside0 (Kd.R (Kd.int .u8) 5 w' base (fun _ => True) (.slice Af b.free.length cf) b.free) ∧ Aside0 (Kd.R kc 85 w' base (fun _ => True) (.slice Aa b.attrs.length ca) b.attrs) ∧ Aside0 (Kd.R (Kd.int .i64) 3 w' base (fun _ => True) (.slice As b.slots.length cs) b.slots) ∧ Aside0 (Kd.R (Kd.int .i64) 3 w' base (fun _ => True) (.slice Ap b.free.length cp) b.free) ∧ Aside0 (Kd.R g8 76 w' base (fun _ => True) (.slice Am M.length cm) M) ∧ Aside0 (aH w' gX (aZ b.addr b.aff b.slots (.slice Af b.free.length cf) (.slice Aa b.attrs.length ca)) 57) ∧ Aside0 (aH w' gY (da b.addr b.aff (.slice As b.slots.length cs) (.slice Ap b.free.length cp) (.slice Am M.length cm)) 62) ∧ Aside0 (aH w' gA [.string a.f0, .string a.f1] 76) ∧ Aside0 (aH w' gZ a9 57) ∧ Aside0 (aH w' gU dG 62) ∧ Aside0 (aH w' s.1 a9 57) ∧ Aside0 (w.heap.size ≤ s.1) ∧ Aside0 (gX ≠ s.1) ∧ Aside0 (gZ ≠ s.1) ∧ Aside0 (ea w' base s.2 nb)) ?_ ?_
 rotate_left
 ·intro en
  refine tw 3 8 ab.out (fun K hK => ?_) (fun K hK => ?_)
  ·skip
   refine gs Try.func50 #[.agg #[.string a.f0, .string a.f1]] (jI a _) ?_
   rintro e V3 ⟨rfl, I⟩
   refine ⟨_, rfl, ?_⟩
   (try replace hV := mv I hV); (try replace hQ := mv I hQ); replace hB := mv I hB; replace hF := mv I hF; replace hG := mv I hG; replace hS := mv I hS; replace hP := mv I hP; replace hM := mv I hM; replace hX := mv I hX; replace hY := mv I hY; replace hA := mv I hA; replace hZ := mv I hZ; replace hU := mv I hU; clear  I
   refine kn hK ⟨hX.out, hA.out⟩ (fun hHeld => ?_)
   clear hK K
   refine tw 4 8 ab.out (fun K hK => ?_) (fun K hK => ?_)
   ·skip
    refine gs Try.func51 #[.agg (aZ b.addr b.aff b.slots (.slice Af b.free.length cf) (.slice Aa b.attrs.length ca)).toArray, .int .u32 x, ej (cv a)] (HAT.out _ _ ⟨_, _, _, _, rfl, ⟨HL.out, (rr hF).1, (rr hF).2, (rr hG).1, (rr hG).2⟩⟩) ?_
    rintro e V4 ⟨v_, rfl, aW, I⟩
    refine ⟨_, rfl, ?_⟩
    have hV := ak (aW.lower (lb HBASE hB)); (try replace hQ := mv I hQ); replace hB := mv I hB; replace hF := mv I hF; replace hG := mv I hG; replace hS := mv I hS; replace hP := mv I hP; replace hM := mv I hM; replace hX := mv I hX; replace hY := mv I hY; replace hA := mv I hA; replace hZ := mv I hZ; replace hU := mv I hU; clear aW I
    refine kn hK ⟨hX.out, hA.out⟩ (fun hHeld => ?_)
    clear hK K
    refine pu 5 ab.out ?_
    refine pu 6 ab.out ?_
    refine pu 7 ab.out ?_
    refine on 8 ab.out (fun K hK => ?_)
    refine dM (by rfl) 57 rfl a9 bP ?_
    intro gQ V8 J aa I
    have cE := ge hB J
    have bk := ne hX J
    have a7 := ne hZ J
    (try replace hV := mv I hV)
    replace hB := mv I hB
    replace hF := mv I hF
    replace hG := mv I hG
    replace hS := mv I hS
    replace hP := mv I hP
    replace hM := mv I hM
    replace hX := mv I hX
    replace hY := mv I hY
    replace hA := mv I hA
    replace hZ := mv I hZ
    replace hU := mv I hU
    have hQ := ak aa
    clear J aa I
    refine kn hK ⟨hX.out, hA.out⟩ (fun hHeld => ?_)
    clear hK K
    exact nc (en ⟨gQ, v_⟩ _ ⟨hB, hF, hG, hS, hP, hM, hX, hY, hA, hZ, hU, hQ, cE, bk, a7, hV⟩)
   ·skip
    refine dM (by rfl) 57 rfl a9 bP ?_
    intro gQ V8 J aa I
    have cE := ge hB J
    have bk := ne hX J
    have a7 := ne hZ J
    (try replace hV := mv I hV)
    replace hB := mv I hB
    replace hF := mv I hF
    replace hG := mv I hG
    replace hS := mv I hS
    replace hP := mv I hP
    replace hM := mv I hM
    replace hX := mv I hX
    replace hY := mv I hY
    replace hA := mv I hA
    replace hZ := mv I hZ
    replace hU := mv I hU
    have hQ := ak aa
    clear J aa I
    refine kn hK ⟨hX.out, hA.out⟩ (fun hHeld => ?_)
    clear hK K
    refine on 4 ab.out (fun K hK => ?_)
    refine gs Try.func51 #[.agg (aZ b.addr b.aff b.slots (.slice Af b.free.length cf) (.slice Aa b.attrs.length ca)).toArray, .int .u32 x, ej (cv a)] (HAT.out _ _ ⟨_, _, _, _, rfl, ⟨HL.out, (rr hF).1, (rr hF).2, (rr hG).1, (rr hG).2⟩⟩) ?_
    rintro e V4 ⟨v_, rfl, aW, I⟩
    refine ⟨_, rfl, ?_⟩
    have hV := ak (aW.lower (lb HBASE hB)); (try replace hQ := mv I hQ); replace hB := mv I hB; replace hF := mv I hF; replace hG := mv I hG; replace hS := mv I hS; replace hP := mv I hP; replace hM := mv I hM; replace hX := mv I hX; replace hY := mv I hY; replace hA := mv I hA; replace hZ := mv I hZ; replace hU := mv I hU; clear aW I
    refine kn hK ⟨hX.out, hA.out⟩ (fun hHeld => ?_)
    clear hK K
    refine pu 5 ab.out ?_
    refine pu 6 ab.out ?_
    refine pu 7 ab.out ?_
    exact nc (en ⟨gQ, v_⟩ _ ⟨hB, hF, hG, hS, hP, hM, hX, hY, hA, hZ, hU, hQ, cE, bk, a7, hV⟩)
  ·skip
   refine dM (by rfl) 57 rfl a9 bP ?_
   intro gQ V8 J aa I
   have cE := ge hB J
   have bk := ne hX J
   have a7 := ne hZ J
   (try replace hV := mv I hV)
   replace hB := mv I hB
   replace hF := mv I hF
   replace hG := mv I hG
   replace hS := mv I hS
   replace hP := mv I hP
   replace hM := mv I hM
   replace hX := mv I hX
   replace hY := mv I hY
   replace hA := mv I hA
   replace hZ := mv I hZ
   replace hU := mv I hU
   have hQ := ak aa
   clear J aa I
   refine kn hK ⟨hX.out, hA.out⟩ (fun hHeld => ?_)
   clear hK K
   refine on 3 ab.out (fun K hK => ?_)
   refine gs Try.func50 #[.agg #[.string a.f0, .string a.f1]] (jI a _) ?_
   rintro e V3 ⟨rfl, I⟩
   refine ⟨_, rfl, ?_⟩
   (try replace hV := mv I hV); (try replace hQ := mv I hQ); replace hB := mv I hB; replace hF := mv I hF; replace hG := mv I hG; replace hS := mv I hS; replace hP := mv I hP; replace hM := mv I hM; replace hX := mv I hX; replace hY := mv I hY; replace hA := mv I hA; replace hZ := mv I hZ; replace hU := mv I hU; clear  I
   refine kn hK ⟨hX.out, hA.out⟩ (fun hHeld => ?_)
   clear hK K
   refine on 4 ab.out (fun K hK => ?_)
   refine gs Try.func51 #[.agg (aZ b.addr b.aff b.slots (.slice Af b.free.length cf) (.slice Aa b.attrs.length ca)).toArray, .int .u32 x, ej (cv a)] (HAT.out _ _ ⟨_, _, _, _, rfl, ⟨HL.out, (rr hF).1, (rr hF).2, (rr hG).1, (rr hG).2⟩⟩) ?_
   rintro e V4 ⟨v_, rfl, aW, I⟩
   refine ⟨_, rfl, ?_⟩
   have hV := ak (aW.lower (lb HBASE hB)); (try replace hQ := mv I hQ); replace hB := mv I hB; replace hF := mv I hF; replace hG := mv I hG; replace hS := mv I hS; replace hP := mv I hP; replace hM := mv I hM; replace hX := mv I hX; replace hY := mv I hY; replace hA := mv I hA; replace hZ := mv I hZ; replace hU := mv I hU; clear aW I
   refine kn hK ⟨hX.out, hA.out⟩ (fun hHeld => ?_)
   clear hK K
   refine pu 5 ab.out ?_
   refine pu 6 ab.out ?_
   refine pu 7 ab.out ?_
   exact nc (en ⟨gQ, v_⟩ _ ⟨hB, hF, hG, hS, hP, hM, hX, hY, hA, hZ, hU, hQ, cE, bk, a7, hV⟩)
 intro s w' hFF; obtain ⟨gQ, v_⟩ := s; simp only at hFF; obtain ⟨hB, hF, hG, hS, hP, hM, hX, hY, hA, hZ, hU, hQ, cE, bk, a7, hV⟩ := hFF; have aW := hV.out; obtain ⟨iD, oP, oQ, rfl, di, dO⟩ := aW; obtain ⟨A8, c8, rfl⟩ := Kd.R_slice di; obtain ⟨A9, c9, rfl⟩ := Kd.R_slice dO; have hC := ak di; have hD := ak dO; clear hV iD di dO
 refine nj ?_
 refine ow 9 ab.out (fun K hK => ?_)
 refine bA (by rfl) rfl 57 (.tmp 11) (.tmp 21) rfl gQ (aZ nb.addr nb.aff nb.slots (.slice A8 nb.free.length c8) (.slice A9 nb.attrs.length c9)) rfl rfl 57 _ hQ.out 68 (by kernel_rfl) (ag _ _ _ _ _ HNL.out) rfl (b4 _ _ _ _ _ rfl rfl) ?_
 intro V9 aa J; replace hB := gb hB cE J; replace hF := gr hF hQ J; replace hG := gr hG hQ J; replace hS := gr hS hQ J; replace hP := gr hP hQ J; replace hM := gr hM hQ J; replace hX := gn hX bk J; replace hY := gx hY hQ J; replace hA := gx hA hQ J; replace hZ := gn hZ a7 J; replace hU := gx hU hQ J; replace hC := gr hC hQ J; replace hD := gr hD hQ J; replace hQ := ak (aa); clear aa J
 refine hK.out _ _ ⟨hX.out, hA.out⟩ (fun hHeld => ?_)
 clear hK K
 refine pu 10 ab.out ?_
 refine dn ab.out ?_
 clear hHeld
 have HLN := ak (cg (aZ nb.addr nb.aff nb.slots (.slice A8 nb.free.length c8) (.slice A9 nb.attrs.length c9)) (ag _ _ _ _ _ HNL.out))
 have HZR := ak (fun v w h => oc v w (by rw [← HNB.out]; exact h))
 go_wp2_with (first
  | ((with_reducible refine ax (N := 23) rfl ?_); refine az rfl 76 (.tmp 7) rfl gA rfl _ _ _ hA.out Try.underlying76 rfl 2 (by kernel_rfl) rfl ?_)
  | (go_at_call 60; refine (HMY.out _).mono ?_; rintro e qC ⟨rfl, I⟩; have iK := mv I hB; have jr := mv I hF; have jo := mv I hG; have ic := mv I hS; have ie := mv I hP; have ig := mv I hM; have jk := mv I hX; have ib := mv I hY; have n9 := mv I hA; have ji := mv I hZ; have jl := mv I hU; have jm := mv I hQ; have jv := mv I hC; have jt := mv I hD; clear I hB hF hG hS hP hM hX hY hA hZ hU hQ hC hD))
 have aj : Below qC.heap.size qC qC.drew := bo (Below.refl _ _)
 have iW := mv aj iK; have jq := mv aj jr; have jn := mv aj jo; have iH := mv aj ic; have iI := mv aj ie; have iJ := mv aj ig; have iS := mv aj jk; have iu := mv aj ib; have n8 := mv aj n9; have iR := mv aj ji; have iU := mv aj jl; have iV := mv aj jm; have ju := mv aj jv; have js := mv aj jt
 clear aj iK jr jo ic ie ig jk ib n9 ji jl jm jv jt
 have hB := iW
 have hF := jq
 have hG := jn
 have hS := iH
 have hP := iI
 have hM := iJ
 have hX := iS
 have hY := iu
 have hA := n8
 have hZ := iR
 have hU := iU
 have hQ := iV
 have hC := ju
 have hD := js
 clear iW jq jn iH iI iJ iS iu n8 iR iU iV ju js
 refine cW (n := 11) (S := fun w' => aH w' gX (aZ b.addr b.aff b.slots (.slice Af b.free.length cf) (.slice Aa b.attrs.length ca)) 57 ∧ aH w' gY (da b.addr b.aff (.slice As b.slots.length cs) (.slice Ap b.free.length cp) (.slice Am M.length cm)) 62 ∧ aH w' gQ (aZ nb.addr nb.aff nb.slots (.slice A8 nb.free.length c8) (.slice A9 nb.attrs.length c9)) 57) (ds := []) #[false, false, false, false, false, false, false, false, false, false, false] (by kernel_rfl) rfl rfl ⟨hX.out, hY.out, hQ.out⟩ (fun hHeld => ?_); refine bK sh.tab3 sh.bits3 (fun ab bj => ?_)
 refine tk 0 ab.out bj.out hHeld ?_ (hv := by exact fun _ aU => aI 57 (.tmp 4) rfl gX rfl _ _ _ aU.1 Try.underlying57 rfl HLB.out)
 refine tk 1 ab.out bj.out hHeld ?_ (hv := by exact fun _ aU => aI 62 (.tmp 5) rfl gY rfl _ _ _ aU.2.1 Try.underlying62 rfl (by kernel_rfl))
 refine pu 2 ab.out ?_
 refine pu 3 ab.out ?_
 refine pu 4 ab.out ?_
 refine tk 5 ab.out bj.out hHeld ?_ (hv := by exact fun _ aU => aI 57 (.tmp 11) rfl gQ rfl _ _ _ aU.2.2 Try.underlying57 rfl HLN.out)
 refine on 6 ab.out (fun K hK => ?_)
 refine gs Try.func43 #[.agg (aZ nb.addr nb.aff nb.slots (.slice A8 nb.free.length c8) (.slice A9 nb.attrs.length c9)).toArray] (HZR.out _ _ ⟨_, _, _, _, rfl, ⟨HNL.out, (rr hC).1, (rr hC).2, (rr hD).1, (rr hD).2⟩⟩) ?_
 rintro e V6 ⟨rfl, I⟩
 refine ⟨_, rfl, ?_⟩
 replace hB := mv I hB; replace hF := mv I hF; replace hG := mv I hG; replace hS := mv I hS; replace hP := mv I hP; replace hM := mv I hM; replace hX := mv I hX; replace hY := mv I hY; replace hA := mv I hA; replace hZ := mv I hZ; replace hU := mv I hU; replace hQ := mv I hQ; replace hC := mv I hC; replace hD := mv I hD
 refine kn hK ⟨hX.out, hY.out, hQ.out⟩ (fun hHeld => ?_)
 clear hK K
 refine pu 7 ab.out ?_
 refine ow 8 ab.out (fun K hK => ?_)
 refine bA (by rfl) rfl 57 (.tmp 8) (.tmp 32) rfl gZ (aZ b.addr b.aff b.slots (.slice Af b.free.length cf) (.slice Aa b.attrs.length ca)) rfl rfl 57 _ hZ.out 68 (by kernel_rfl) (ag _ _ _ _ _ HL.out) rfl (b4 _ _ _ _ _ rfl rfl) ?_
 intro V8 aa J; replace hB := gb hB bN J; replace hF := gr hF hZ J; replace hG := gr hG hZ J; replace hS := gr hS hZ J; replace hP := gr hP hZ J; replace hM := gr hM hZ J; replace hX := gn hX aG J; replace hY := gx hY hZ J; replace hA := gx hA hZ J; replace hU := gx hU hZ J; replace hQ := gm hQ a7 J; replace hC := gr hC hZ J; replace hD := gr hD hZ J; replace hZ := ak (aa); clear aa J
 refine hK.out _ _ ⟨hX.out, hY.out, hQ.out⟩ (fun hHeld => ?_)
 clear hK K
 refine ow 9 ab.out (fun K hK => ?_)
 refine bA (by rfl) rfl 62 (.tmp 9) (.tmp 33) rfl gU (da b.addr b.aff (.slice As b.slots.length cs) (.slice Ap b.free.length cp) (.slice Am M.length cm)) rfl rfl 62 _ hU.out 5 (by kernel_rfl) rfl rfl (dJ _ _ rfl rfl rfl) ?_
 intro V9 aa J; replace hB := gb hB fu J; replace hF := gr hF hU J; replace hG := gr hG hU J; replace hS := gr hS hU J; replace hP := gr hP hU J; replace hM := gr hM hU J; replace hX := gx hX hU J; replace hY := gn hY dw J; replace hA := gx hA hU J; replace hZ := gx hZ hU J; replace hQ := gx hQ hU J; replace hC := gr hC hU J; replace hD := gr hD hU J; replace hU := ak (aa); clear aa J
 refine hK.out _ _ ⟨hX.out, hY.out, hQ.out⟩ (fun hHeld => ?_)
 clear hK K
 refine pu 10 ab.out ?_
 refine dn ab.out ?_
 clear hHeld
 go_wp2_with fail
 refine bodyPost_ret (eK rfl _ _ _ gZ gU 57 62 _ _ _ _ rfl hZ.out rfl Try.underlying57 (by first | exact HLB.out | exact HLN.out) rfl hU.out rfl Try.underlying62 (by kernel_rfl)) rfl ⟨_, _, b, rfl, ?_, ?_, ?_, hB.out⟩
 ·exact HG.out
 ·exact ⟨HL.out, _, _, rfl, hF.out, hG.out⟩
 ·exact ⟨_, _, _, rfl, hS.out, hP.out, by rw [← HM.out]; exact hM.out⟩
set_option maxHeartbeats 16000000 in
set_option maxRecDepth 100000 in
theorem CG (b : Bk) (hg : RG b) (x : Int) (h0 : 0 ≤ x) (h1 : x < 4294967296) (a : kz) (e7 : a.f0.size ≤ 9223372036854775807) (fE : a.f1.size ≤ 9223372036854775807) (hma : eo (cv a) = true) (hin : bV x ≠ b.addr) (v v2 : Value) (w : World) (base : Nat) (hbase : base ≤ w.heap.size) (hO : ea w base v b) (hR : eG w base v2 b) :
  Calls Try.prog 83 #[v, v2, .int .u32 x, .agg #[.string a.f0, .string a.f1]] w fun e w' => ∃ v1 v2 b', e = .returned (.tuple #[v1, v2, .bool true]) ∧ RG b' ∧ ea w' base v1 b' ∧ eG w' base v2 b' ∧ Below w.heap.size w w' := by
 obtain ⟨hl, vf, va, rfl, hf, ha⟩ := hO
 obtain ⟨vs, vp, vm, rfl, hs, hp, hm⟩ := hR
 obtain ⟨Af, cf, rfl⟩ := Kd.R_slice hf
 obtain ⟨Aa, ca, rfl⟩ := Kd.R_slice ha
 obtain ⟨As, cs, rfl⟩ := Kd.R_slice hs
 obtain ⟨Ap, cp, rfl⟩ := Kd.R_slice hp
 obtain ⟨M, hM⟩ : ∃ M, M = b.attrs.map vc := ⟨_, rfl⟩
 rw [← hM] at hm
 obtain ⟨Am, cm, rfl⟩ := Kd.R_slice hm
 have HL := ak hl
 have HM := ak hM
 have bw := ak hf
 have dY := ak ha
 have aX := ak hs
 have dT := ak hp
 have bD := ak hm
 have HG := ak hg
 have ae := ak (Below.refl w.heap.size w)
 have HBASE := ak hbase
 have HLB := ak (cg (aZ b.addr b.aff b.slots (.slice Af b.free.length cf) (.slice Aa b.attrs.length ca)) (ag _ _ _ _ _ HL.out))
 have hno : (eo (cv a) && decide (bV x = b.addr)) = false := by rw [decide_eq_false hin, Bool.and_false]
 have e1 : pa b x (cv a) = false := by unfold pa; rw [hno, Bool.and_false]
 have e2 : qA b x (cv a) = 1 := by unfold qA; rw [if_neg (by rw [e1]; decide)]
 have e3 : mY b x (cv a) = jP := by unfold mY; rw [if_neg (by rw [e1]; decide)]
 have hat := fun v w h => nC b hg.ok x h0 h1 (cv a) v w h
 rw [e2, e3] at hat
 have hnl : jP.slots.length = 64 := rfl
 obtain ⟨nb, hnb⟩ : ∃ nb, nb = jP := ⟨_, rfl⟩
 rw [← hnb] at hat hnl
 have HNL := ak hnl
 have HAT := ak hat
 have HNB := ak hnb
 have HMY := ak (fun w => qj a e7 fE w)
 have HIN := ak (fun w h => td b M As Ap Am cs cp cm w h x h0 h1)
 have HOF := ak (fun w h => oe b hl hg.ok.s8 (fun s hs => (hg.s0 s hs).2) M As Ap Am cs cp cm w h x h0 h1)
 rw [hma] at HMY
 rw [decide_eq_false hin] at HIN
 clear hma hno hin hl hM hf ha hs hp hm hg e1 e2 e3 hat hnl hnb hbase
 go_enter Try.func83, Try.ntmps83
 go_wp2_with (first
  | (refine aE rfl 57 (.tmp 0) rfl _ rfl ?_; intro gX W1 J aa I; have bQ := ge ae J; have ai := ak (ae.out.trans (I.mono ae.out.size)); have bp := mv I bw; have dp := mv I dY; have bd := mv I aX; have cZ := mv I dT; have bH := mv I bD; have ah := ak (aa); clear J aa I ae bw dY aX dT bD)
  | (refine aE rfl 62 (.tmp 1) rfl _ rfl ?_; intro gY W2 J aa I; have iX := ge ai J; have fB := ne ah J; have av := mv I ai; have bT := mv I bp; have dF := mv I dp; have bC := mv I bd; have dd := mv I cZ; have b9 := mv I bH; have au := mv I ah; have b8 := ak (aa); clear J aa I ai bp dp bd cZ bH ah)
  | (refine aE rfl 76 (.tmp 3) rfl _ rfl ?_; intro gA W3 J aa I; have ku := ge av J; have eD := ne au J; have vY := ne b8 J; have aD := mv I av; have cj := mv I bT; have dQ := mv I dF; have bU := mv I bC; have dA := mv I dd; have cN := ak (Kd.R_mono (ok' := fun k_ => True) (Kd.R_below b9.out I) (fun _ _ => trivial)); have aA := mv I au; have b7 := mv I b8; have dq := ak (aa); clear J aa I av bT dF bC dd b9 au b8)
  | (refine aw (some 8) rfl rfl 57 rfl a9 bP ?_; intro gZ W4 J aa I; have bN := ge aD J; have aG := ne aA J; have fM := ne b7 J; have gf := ne dq J; have aY := mv I aD; have ch := mv I cj; have dE := mv I dQ; have cx := mv I bU; have dX := mv I dA; have cR := mv I cN; have aV := mv I aA; have bZ := mv I b7; have dI := mv I dq; have a8 := ak (aa); clear J aa I aD cj dQ bU dA cN aA b7 dq)
  | (refine aw (some 9) rfl rfl 62 rfl dG (fun _ => by kernel_rfl) ?_; intro gU W5 J aa I; have fu := ge aY J; have gC := ne aV J; have dw := ne bZ J; have vZ := ne dI J; have gB := ne a8 J; have bf := mv I aY; have cb := mv I ch; have de := mv I dE; have cJ := mv I cx; have ee := mv I dX; have cG := mv I cR; have bb := mv I aV; have cB := mv I bZ; have eJ := mv I dI; have bu := mv I a8; have eH := ak (aa); clear J aa I aY ch dE cx dX cR aV bZ dI a8))
 have aj : Below W5.heap.size W5 W5.drew := bo (Below.refl _ _)
 have bG := mv aj bf; have cQ := mv aj cb; have dt := mv aj de; have cY := mv aj cJ; have ef := mv aj ee; have dD := mv aj cG; have bh := mv aj bb; have cX := mv aj cB; have fy := mv aj eJ; have bS := mv aj bu; have dW := mv aj eH
 clear aj bf cb de cJ ee cG bb cB eJ bu eH
 have hB := bG
 have hF := cQ
 have hG := dt
 have hS := cY
 have hP := ef
 have hM := dD
 have hX := bh
 have hY := cX
 have hA := fy
 have hZ := bS
 have hU := dW
 clear bG cQ dt cY ef dD bh cX fy bS dW
 refine cW (n := 11) (S := fun w' => aH w' gX (aZ b.addr b.aff b.slots (.slice Af b.free.length cf) (.slice Aa b.attrs.length ca)) 57 ∧ aH w' gA [.string a.f0, .string a.f1] 76) (ds := []) #[false, false, false, false, false, false, false, false, false, false, false] (by kernel_rfl) rfl rfl ⟨hX.out, hA.out⟩ (fun hHeld => ?_); refine bK nx.tab1 nx.bits1 (fun ab bj => ?_)
 refine tk 0 ab.out bj.out hHeld ?_ (hv := by exact fun _ aU => aI 57 (.tmp 4) rfl gX rfl _ _ _ aU.1 Try.underlying57 rfl HLB.out)
 refine pu 1 ab.out ?_
 refine tk 2 ab.out bj.out hHeld ?_ (hv := by exact fun _ aU => aI 76 (.tmp 7) rfl gA rfl _ _ _ aU.2 Try.underlying76 rfl (by kernel_rfl))
 refine pw (σ := Nat × Value) 2 #[true, true, true, true, true, true, true, true, true, false, false] (fun s => [(19, ej (cv a)), (20, .tuple #[s.2, .int .i64 1]), (15, .tuple #[s.2, .int .i64 1]), (21, s.2), (22, .int .i64 1), (11, .pointer (some ⟨s.1, 0, none⟩))]) (fun s w' => Aside0 (Below w.heap.size w w') ∧ Aside0 (Kd.R (Kd.int .u8) 5 w' base (fun _ => True) (.slice Af b.free.length cf) b.free) ∧ Aside0 (Kd.R kc 85 w' base (fun _ => True) (.slice Aa b.attrs.length ca) b.attrs) ∧ Aside0 (Kd.R (Kd.int .i64) 3 w' base (fun _ => True) (.slice As b.slots.length cs) b.slots) ∧ Aside0 (Kd.R (Kd.int .i64) 3 w' base (fun _ => True) (.slice Ap b.free.length cp) b.free) ∧ Aside0 (Kd.R g8 76 w' base (fun _ => True) (.slice Am M.length cm) M) ∧ Aside0 (aH w' gX (aZ b.addr b.aff b.slots (.slice Af b.free.length cf) (.slice Aa b.attrs.length ca)) 57) ∧ Aside0 (aH w' gY (da b.addr b.aff (.slice As b.slots.length cs) (.slice Ap b.free.length cp) (.slice Am M.length cm)) 62) ∧ Aside0 (aH w' gA [.string a.f0, .string a.f1] 76) ∧ Aside0 (aH w' gZ a9 57) ∧ Aside0 (aH w' gU dG 62) ∧ Aside0 (aH w' s.1 a9 57) ∧ Aside0 (w.heap.size ≤ s.1) ∧ Aside0 (gX ≠ s.1) ∧ Aside0 (gZ ≠ s.1) ∧ Aside0 (ea w' base s.2 nb)) ?_ ?_
 rotate_left
 ·intro en
  refine tw 3 8 ab.out (fun K hK => ?_) (fun K hK => ?_)
  ·skip
   refine gs Try.func50 #[.agg #[.string a.f0, .string a.f1]] (jI a _) ?_
   rintro e V3 ⟨rfl, I⟩
   refine ⟨_, rfl, ?_⟩
   (try replace hV := mv I hV); (try replace hQ := mv I hQ); replace hB := mv I hB; replace hF := mv I hF; replace hG := mv I hG; replace hS := mv I hS; replace hP := mv I hP; replace hM := mv I hM; replace hX := mv I hX; replace hY := mv I hY; replace hA := mv I hA; replace hZ := mv I hZ; replace hU := mv I hU; clear  I
   refine kn hK ⟨hX.out, hA.out⟩ (fun hHeld => ?_)
   clear hK K
   refine tw 4 8 ab.out (fun K hK => ?_) (fun K hK => ?_)
   ·skip
    refine gs Try.func51 #[.agg (aZ b.addr b.aff b.slots (.slice Af b.free.length cf) (.slice Aa b.attrs.length ca)).toArray, .int .u32 x, ej (cv a)] (HAT.out _ _ ⟨_, _, _, _, rfl, ⟨HL.out, (rr hF).1, (rr hF).2, (rr hG).1, (rr hG).2⟩⟩) ?_
    rintro e V4 ⟨v_, rfl, aW, I⟩
    refine ⟨_, rfl, ?_⟩
    have hV := ak (aW.lower (lb HBASE hB)); (try replace hQ := mv I hQ); replace hB := mv I hB; replace hF := mv I hF; replace hG := mv I hG; replace hS := mv I hS; replace hP := mv I hP; replace hM := mv I hM; replace hX := mv I hX; replace hY := mv I hY; replace hA := mv I hA; replace hZ := mv I hZ; replace hU := mv I hU; clear aW I
    refine kn hK ⟨hX.out, hA.out⟩ (fun hHeld => ?_)
    clear hK K
    refine pu 5 ab.out ?_
    refine pu 6 ab.out ?_
    refine pu 7 ab.out ?_
    refine on 8 ab.out (fun K hK => ?_)
    refine dM (by rfl) 57 rfl a9 bP ?_
    intro gQ V8 J aa I
    have cE := ge hB J
    have bk := ne hX J
    have a7 := ne hZ J
    (try replace hV := mv I hV)
    replace hB := mv I hB
    replace hF := mv I hF
    replace hG := mv I hG
    replace hS := mv I hS
    replace hP := mv I hP
    replace hM := mv I hM
    replace hX := mv I hX
    replace hY := mv I hY
    replace hA := mv I hA
    replace hZ := mv I hZ
    replace hU := mv I hU
    have hQ := ak aa
    clear J aa I
    refine kn hK ⟨hX.out, hA.out⟩ (fun hHeld => ?_)
    clear hK K
    exact nc (en ⟨gQ, v_⟩ _ ⟨hB, hF, hG, hS, hP, hM, hX, hY, hA, hZ, hU, hQ, cE, bk, a7, hV⟩)
   ·skip
    refine dM (by rfl) 57 rfl a9 bP ?_
    intro gQ V8 J aa I
    have cE := ge hB J
    have bk := ne hX J
    have a7 := ne hZ J
    (try replace hV := mv I hV)
    replace hB := mv I hB
    replace hF := mv I hF
    replace hG := mv I hG
    replace hS := mv I hS
    replace hP := mv I hP
    replace hM := mv I hM
    replace hX := mv I hX
    replace hY := mv I hY
    replace hA := mv I hA
    replace hZ := mv I hZ
    replace hU := mv I hU
    have hQ := ak aa
    clear J aa I
    refine kn hK ⟨hX.out, hA.out⟩ (fun hHeld => ?_)
    clear hK K
    refine on 4 ab.out (fun K hK => ?_)
    refine gs Try.func51 #[.agg (aZ b.addr b.aff b.slots (.slice Af b.free.length cf) (.slice Aa b.attrs.length ca)).toArray, .int .u32 x, ej (cv a)] (HAT.out _ _ ⟨_, _, _, _, rfl, ⟨HL.out, (rr hF).1, (rr hF).2, (rr hG).1, (rr hG).2⟩⟩) ?_
    rintro e V4 ⟨v_, rfl, aW, I⟩
    refine ⟨_, rfl, ?_⟩
    have hV := ak (aW.lower (lb HBASE hB)); (try replace hQ := mv I hQ); replace hB := mv I hB; replace hF := mv I hF; replace hG := mv I hG; replace hS := mv I hS; replace hP := mv I hP; replace hM := mv I hM; replace hX := mv I hX; replace hY := mv I hY; replace hA := mv I hA; replace hZ := mv I hZ; replace hU := mv I hU; clear aW I
    refine kn hK ⟨hX.out, hA.out⟩ (fun hHeld => ?_)
    clear hK K
    refine pu 5 ab.out ?_
    refine pu 6 ab.out ?_
    refine pu 7 ab.out ?_
    exact nc (en ⟨gQ, v_⟩ _ ⟨hB, hF, hG, hS, hP, hM, hX, hY, hA, hZ, hU, hQ, cE, bk, a7, hV⟩)
  ·skip
   refine dM (by rfl) 57 rfl a9 bP ?_
   intro gQ V8 J aa I
   have cE := ge hB J
   have bk := ne hX J
   have a7 := ne hZ J
   (try replace hV := mv I hV)
   replace hB := mv I hB
   replace hF := mv I hF
   replace hG := mv I hG
   replace hS := mv I hS
   replace hP := mv I hP
   replace hM := mv I hM
   replace hX := mv I hX
   replace hY := mv I hY
   replace hA := mv I hA
   replace hZ := mv I hZ
   replace hU := mv I hU
   have hQ := ak aa
   clear J aa I
   refine kn hK ⟨hX.out, hA.out⟩ (fun hHeld => ?_)
   clear hK K
   refine on 3 ab.out (fun K hK => ?_)
   refine gs Try.func50 #[.agg #[.string a.f0, .string a.f1]] (jI a _) ?_
   rintro e V3 ⟨rfl, I⟩
   refine ⟨_, rfl, ?_⟩
   (try replace hV := mv I hV); (try replace hQ := mv I hQ); replace hB := mv I hB; replace hF := mv I hF; replace hG := mv I hG; replace hS := mv I hS; replace hP := mv I hP; replace hM := mv I hM; replace hX := mv I hX; replace hY := mv I hY; replace hA := mv I hA; replace hZ := mv I hZ; replace hU := mv I hU; clear  I
   refine kn hK ⟨hX.out, hA.out⟩ (fun hHeld => ?_)
   clear hK K
   refine on 4 ab.out (fun K hK => ?_)
   refine gs Try.func51 #[.agg (aZ b.addr b.aff b.slots (.slice Af b.free.length cf) (.slice Aa b.attrs.length ca)).toArray, .int .u32 x, ej (cv a)] (HAT.out _ _ ⟨_, _, _, _, rfl, ⟨HL.out, (rr hF).1, (rr hF).2, (rr hG).1, (rr hG).2⟩⟩) ?_
   rintro e V4 ⟨v_, rfl, aW, I⟩
   refine ⟨_, rfl, ?_⟩
   have hV := ak (aW.lower (lb HBASE hB)); (try replace hQ := mv I hQ); replace hB := mv I hB; replace hF := mv I hF; replace hG := mv I hG; replace hS := mv I hS; replace hP := mv I hP; replace hM := mv I hM; replace hX := mv I hX; replace hY := mv I hY; replace hA := mv I hA; replace hZ := mv I hZ; replace hU := mv I hU; clear aW I
   refine kn hK ⟨hX.out, hA.out⟩ (fun hHeld => ?_)
   clear hK K
   refine pu 5 ab.out ?_
   refine pu 6 ab.out ?_
   refine pu 7 ab.out ?_
   exact nc (en ⟨gQ, v_⟩ _ ⟨hB, hF, hG, hS, hP, hM, hX, hY, hA, hZ, hU, hQ, cE, bk, a7, hV⟩)
 intro s w' hFF; obtain ⟨gQ, v_⟩ := s; simp only at hFF; obtain ⟨hB, hF, hG, hS, hP, hM, hX, hY, hA, hZ, hU, hQ, cE, bk, a7, hV⟩ := hFF; have aW := hV.out; obtain ⟨iD, oP, oQ, rfl, di, dO⟩ := aW; obtain ⟨A8, c8, rfl⟩ := Kd.R_slice di; obtain ⟨A9, c9, rfl⟩ := Kd.R_slice dO; have hC := ak di; have hD := ak dO; clear hV iD di dO
 refine nj ?_
 refine ow 9 ab.out (fun K hK => ?_)
 refine bA (by rfl) rfl 57 (.tmp 11) (.tmp 21) rfl gQ (aZ nb.addr nb.aff nb.slots (.slice A8 nb.free.length c8) (.slice A9 nb.attrs.length c9)) rfl rfl 57 _ hQ.out 68 (by kernel_rfl) (ag _ _ _ _ _ HNL.out) rfl (b4 _ _ _ _ _ rfl rfl) ?_
 intro V9 aa J; replace hB := gb hB cE J; replace hF := gr hF hQ J; replace hG := gr hG hQ J; replace hS := gr hS hQ J; replace hP := gr hP hQ J; replace hM := gr hM hQ J; replace hX := gn hX bk J; replace hY := gx hY hQ J; replace hA := gx hA hQ J; replace hZ := gn hZ a7 J; replace hU := gx hU hQ J; replace hC := gr hC hQ J; replace hD := gr hD hQ J; replace hQ := ak (aa); clear aa J
 refine hK.out _ _ ⟨hX.out, hA.out⟩ (fun hHeld => ?_)
 clear hK K
 refine pu 10 ab.out ?_
 refine dn ab.out ?_
 clear hHeld
 have HLN := ak (cg (aZ nb.addr nb.aff nb.slots (.slice A8 nb.free.length c8) (.slice A9 nb.attrs.length c9)) (ag _ _ _ _ _ HNL.out))
 have HZR := ak (fun v w h => oc v w (by rw [← HNB.out]; exact h))
 go_wp2_with (first
  | ((with_reducible refine ax (N := 23) rfl ?_); refine az rfl 76 (.tmp 7) rfl gA rfl _ _ _ hA.out Try.underlying76 rfl 2 (by kernel_rfl) rfl ?_)
  | (go_at_call 60; refine (HMY.out _).mono ?_; rintro e qC ⟨rfl, I⟩; have iK := mv I hB; have jr := mv I hF; have jo := mv I hG; have ic := mv I hS; have ie := mv I hP; have ig := mv I hM; have jk := mv I hX; have ib := mv I hY; have n9 := mv I hA; have ji := mv I hZ; have jl := mv I hU; have jm := mv I hQ; have jv := mv I hC; have jt := mv I hD; clear I hB hF hG hS hP hM hX hY hA hZ hU hQ hC hD)
  | ((with_reducible refine ax (N := 27) rfl ?_); refine ff (by rfl) ?_; refine az rfl 62 (.tmp 5) rfl gY rfl _ _ _ ib.out Try.underlying62 rfl 5 (by kernel_rfl) rfl ?_)
  | (go_at_call 100; refine (HIN.out _ (jd.of HM.out ic.out ie.out ig.out)).mono ?_; rintro e Dg ⟨rfl, I⟩; have iW := mv I iK; have jq := mv I jr; have jn := mv I jo; have iH := mv I ic; have iI := mv I ie; have iJ := mv I ig; have iS := mv I jk; have iu := mv I ib; have n8 := mv I n9; have iR := mv I ji; have iU := mv I jl; have iV := mv I jm; have ju := mv I jv; have js := mv I jt; clear I iK jr jo ic ie ig jk ib n9 ji jl jm jv jt))
 have aj : Below Dg.heap.size Dg Dg.drew := bo (Below.refl _ _)
 have ml := mv aj iW; have nU := mv aj jq; have nT := mv aj jn; have nO := mv aj iH; have nR := mv aj iI; have nS := mv aj iJ; have mg := mv aj iS; have mf := mv aj iu; have oM := mv aj n8; have me := mv aj iR; have mi := mv aj iU; have mj := mv aj iV; have n7 := mv aj ju; have nZ := mv aj js
 clear aj iW jq jn iH iI iJ iS iu n8 iR iU iV ju js
 have hB := ml
 have hF := nU
 have hG := nT
 have hS := nO
 have hP := nR
 have hM := nS
 have hX := mg
 have hY := mf
 have hA := oM
 have hZ := me
 have hU := mi
 have hQ := mj
 have hC := n7
 have hD := nZ
 clear ml nU nT nO nR nS mg mf oM me mi mj n7 nZ
 refine cW (n := 11) (S := fun w' => aH w' gX (aZ b.addr b.aff b.slots (.slice Af b.free.length cf) (.slice Aa b.attrs.length ca)) 57 ∧ aH w' gY (da b.addr b.aff (.slice As b.slots.length cs) (.slice Ap b.free.length cp) (.slice Am M.length cm)) 62 ∧ aH w' gQ (aZ nb.addr nb.aff nb.slots (.slice A8 nb.free.length c8) (.slice A9 nb.attrs.length c9)) 57) (ds := []) #[false, false, false, false, false, false, false, false, false, false, false] (by kernel_rfl) rfl rfl ⟨hX.out, hY.out, hQ.out⟩ (fun hHeld => ?_); refine bK sh.tab3 sh.bits3 (fun ab bj => ?_)
 refine tk 0 ab.out bj.out hHeld ?_ (hv := by exact fun _ aU => aI 57 (.tmp 4) rfl gX rfl _ _ _ aU.1 Try.underlying57 rfl HLB.out)
 refine tk 1 ab.out bj.out hHeld ?_ (hv := by exact fun _ aU => aI 62 (.tmp 5) rfl gY rfl _ _ _ aU.2.1 Try.underlying62 rfl (by kernel_rfl))
 refine pu 2 ab.out ?_
 refine pu 3 ab.out ?_
 refine pu 4 ab.out ?_
 refine tk 5 ab.out bj.out hHeld ?_ (hv := by exact fun _ aU => aI 57 (.tmp 11) rfl gQ rfl _ _ _ aU.2.2 Try.underlying57 rfl HLN.out)
 refine on 6 ab.out (fun K hK => ?_)
 refine gs Try.func43 #[.agg (aZ nb.addr nb.aff nb.slots (.slice A8 nb.free.length c8) (.slice A9 nb.attrs.length c9)).toArray] (HZR.out _ _ ⟨_, _, _, _, rfl, ⟨HNL.out, (rr hC).1, (rr hC).2, (rr hD).1, (rr hD).2⟩⟩) ?_
 rintro e V6 ⟨rfl, I⟩
 refine ⟨_, rfl, ?_⟩
 replace hB := mv I hB; replace hF := mv I hF; replace hG := mv I hG; replace hS := mv I hS; replace hP := mv I hP; replace hM := mv I hM; replace hX := mv I hX; replace hY := mv I hY; replace hA := mv I hA; replace hZ := mv I hZ; replace hU := mv I hU; replace hQ := mv I hQ; replace hC := mv I hC; replace hD := mv I hD
 refine kn hK ⟨hX.out, hY.out, hQ.out⟩ (fun hHeld => ?_)
 clear hK K
 refine pu 7 ab.out ?_
 refine ow 8 ab.out (fun K hK => ?_)
 refine bA (by rfl) rfl 57 (.tmp 8) (.tmp 32) rfl gZ (aZ b.addr b.aff b.slots (.slice Af b.free.length cf) (.slice Aa b.attrs.length ca)) rfl rfl 57 _ hZ.out 68 (by kernel_rfl) (ag _ _ _ _ _ HL.out) rfl (b4 _ _ _ _ _ rfl rfl) ?_
 intro V8 aa J; replace hB := gb hB bN J; replace hF := gr hF hZ J; replace hG := gr hG hZ J; replace hS := gr hS hZ J; replace hP := gr hP hZ J; replace hM := gr hM hZ J; replace hX := gn hX aG J; replace hY := gx hY hZ J; replace hA := gx hA hZ J; replace hU := gx hU hZ J; replace hQ := gm hQ a7 J; replace hC := gr hC hZ J; replace hD := gr hD hZ J; replace hZ := ak (aa); clear aa J
 refine hK.out _ _ ⟨hX.out, hY.out, hQ.out⟩ (fun hHeld => ?_)
 clear hK K
 refine ow 9 ab.out (fun K hK => ?_)
 refine bA (by rfl) rfl 62 (.tmp 9) (.tmp 33) rfl gU (da b.addr b.aff (.slice As b.slots.length cs) (.slice Ap b.free.length cp) (.slice Am M.length cm)) rfl rfl 62 _ hU.out 5 (by kernel_rfl) rfl rfl (dJ _ _ rfl rfl rfl) ?_
 intro V9 aa J; replace hB := gb hB fu J; replace hF := gr hF hU J; replace hG := gr hG hU J; replace hS := gr hS hU J; replace hP := gr hP hU J; replace hM := gr hM hU J; replace hX := gx hX hU J; replace hY := gn hY dw J; replace hA := gx hA hU J; replace hZ := gx hZ hU J; replace hQ := gx hQ hU J; replace hC := gr hC hU J; replace hD := gr hD hU J; replace hU := ak (aa); clear aa J
 refine hK.out _ _ ⟨hX.out, hY.out, hQ.out⟩ (fun hHeld => ?_)
 clear hK K
 refine pu 10 ab.out ?_
 refine dn ab.out ?_
 clear hHeld
 go_wp2_with fail
 refine bodyPost_ret (eK rfl _ _ _ gZ gU 57 62 _ _ _ _ rfl hZ.out rfl Try.underlying57 (by first | exact HLB.out | exact HLN.out) rfl hU.out rfl Try.underlying62 (by kernel_rfl)) rfl ⟨_, _, b, rfl, ?_, ?_, ?_, hB.out⟩
 ·exact HG.out
 ·exact ⟨HL.out, _, _, rfl, hF.out, hG.out⟩
 ·exact ⟨_, _, _, rfl, hS.out, hP.out, by rw [← HM.out]; exact hM.out⟩
set_option maxHeartbeats 16000000 in
set_option maxRecDepth 100000 in
theorem zG (b : Bk) (hg : RG b) (x : Int) (h0 : 0 ≤ x) (h1 : x < 4294967296) (a : kz) (e7 : a.f0.size ≤ 9223372036854775807) (fE : a.f1.size ≤ 9223372036854775807) (hma : eo (cv a) = true) (hin : bV x = b.addr) (hh : gw b x = true) (v v2 : Value) (w : World) (base : Nat) (hbase : base ≤ w.heap.size) (hO : ea w base v b) (hR : eG w base v2 b) :
  Calls Try.prog 83 #[v, v2, .int .u32 x, .agg #[.string a.f0, .string a.f1]] w fun e w' => ∃ v1 v2 b', e = .returned (.tuple #[v1, v2, .bool true]) ∧ RG b' ∧ ea w' base v1 b' ∧ eG w' base v2 b' ∧ Below w.heap.size w w' := by
 obtain ⟨hl, vf, va, rfl, hf, ha⟩ := hO
 obtain ⟨vs, vp, vm, rfl, hs, hp, hm⟩ := hR
 obtain ⟨Af, cf, rfl⟩ := Kd.R_slice hf
 obtain ⟨Aa, ca, rfl⟩ := Kd.R_slice ha
 obtain ⟨As, cs, rfl⟩ := Kd.R_slice hs
 obtain ⟨Ap, cp, rfl⟩ := Kd.R_slice hp
 obtain ⟨M, hM⟩ : ∃ M, M = b.attrs.map vc := ⟨_, rfl⟩
 rw [← hM] at hm
 obtain ⟨Am, cm, rfl⟩ := Kd.R_slice hm
 have HL := ak hl
 have HM := ak hM
 have bw := ak hf
 have dY := ak ha
 have aX := ak hs
 have dT := ak hp
 have bD := ak hm
 have HG := ak hg
 have ae := ak (Below.refl w.heap.size w)
 have HBASE := ak hbase
 have HLB := ak (cg (aZ b.addr b.aff b.slots (.slice Af b.free.length cf) (.slice Aa b.attrs.length ca)) (ag _ _ _ _ _ HL.out))
 have e0 : ox b x = true := by unfold gw at hh; rw [decide_eq_true hin, Bool.true_and] at hh; exact hh
 have e1 : pa b x (cv a) = true := by unfold pa; rw [hg.right, hma, decide_eq_true hin]; rfl
 have e2 : qA b x (cv a) = 11 := by unfold qA; rw [if_pos e1, if_pos e0]
 have e3 : mY b x (cv a) = jP := by unfold mY; rw [if_pos e1, if_pos e0]
 have hat := fun v w h => nC b hg.ok x h0 h1 (cv a) v w h
 rw [e2, e3] at hat
 have hnl : jP.slots.length = 64 := rfl
 obtain ⟨nb, hnb⟩ : ∃ nb, nb = jP := ⟨_, rfl⟩
 rw [← hnb] at hat hnl
 have HNL := ak hnl
 have HAT := ak hat
 have HNB := ak hnb
 have HMY := ak (fun w => qj a e7 fE w)
 have HIN := ak (fun w h => td b M As Ap Am cs cp cm w h x h0 h1)
 have HOF := ak (fun w h => oe b hl hg.ok.s8 (fun s hs => (hg.s0 s hs).2) M As Ap Am cs cp cm w h x h0 h1)
 rw [hma] at HMY
 rw [decide_eq_true hin] at HIN
 rw [hh] at HOF
 clear hma hin hh e0 hl hM hf ha hs hp hm hg e1 e2 e3 hat hnl hnb hbase
 go_enter Try.func83, Try.ntmps83
 go_wp2_with (first
  | (refine aE rfl 57 (.tmp 0) rfl _ rfl ?_; intro gX W1 J aa I; have bQ := ge ae J; have ai := ak (ae.out.trans (I.mono ae.out.size)); have bp := mv I bw; have dp := mv I dY; have bd := mv I aX; have cZ := mv I dT; have bH := mv I bD; have ah := ak (aa); clear J aa I ae bw dY aX dT bD)
  | (refine aE rfl 62 (.tmp 1) rfl _ rfl ?_; intro gY W2 J aa I; have iX := ge ai J; have fB := ne ah J; have av := mv I ai; have bT := mv I bp; have dF := mv I dp; have bC := mv I bd; have dd := mv I cZ; have b9 := mv I bH; have au := mv I ah; have b8 := ak (aa); clear J aa I ai bp dp bd cZ bH ah)
  | (refine aE rfl 76 (.tmp 3) rfl _ rfl ?_; intro gA W3 J aa I; have ku := ge av J; have eD := ne au J; have vY := ne b8 J; have aD := mv I av; have cj := mv I bT; have dQ := mv I dF; have bU := mv I bC; have dA := mv I dd; have cN := ak (Kd.R_mono (ok' := fun k_ => True) (Kd.R_below b9.out I) (fun _ _ => trivial)); have aA := mv I au; have b7 := mv I b8; have dq := ak (aa); clear J aa I av bT dF bC dd b9 au b8)
  | (refine aw (some 8) rfl rfl 57 rfl a9 bP ?_; intro gZ W4 J aa I; have bN := ge aD J; have aG := ne aA J; have fM := ne b7 J; have gf := ne dq J; have aY := mv I aD; have ch := mv I cj; have dE := mv I dQ; have cx := mv I bU; have dX := mv I dA; have cR := mv I cN; have aV := mv I aA; have bZ := mv I b7; have dI := mv I dq; have a8 := ak (aa); clear J aa I aD cj dQ bU dA cN aA b7 dq)
  | (refine aw (some 9) rfl rfl 62 rfl dG (fun _ => by kernel_rfl) ?_; intro gU W5 J aa I; have fu := ge aY J; have gC := ne aV J; have dw := ne bZ J; have vZ := ne dI J; have gB := ne a8 J; have bf := mv I aY; have cb := mv I ch; have de := mv I dE; have cJ := mv I cx; have ee := mv I dX; have cG := mv I cR; have bb := mv I aV; have cB := mv I bZ; have eJ := mv I dI; have bu := mv I a8; have eH := ak (aa); clear J aa I aY ch dE cx dX cR aV bZ dI a8))
 have aj : Below W5.heap.size W5 W5.drew := bo (Below.refl _ _)
 have bG := mv aj bf; have cQ := mv aj cb; have dt := mv aj de; have cY := mv aj cJ; have ef := mv aj ee; have dD := mv aj cG; have bh := mv aj bb; have cX := mv aj cB; have fy := mv aj eJ; have bS := mv aj bu; have dW := mv aj eH
 clear aj bf cb de cJ ee cG bb cB eJ bu eH
 have hB := bG
 have hF := cQ
 have hG := dt
 have hS := cY
 have hP := ef
 have hM := dD
 have hX := bh
 have hY := cX
 have hA := fy
 have hZ := bS
 have hU := dW
 clear bG cQ dt cY ef dD bh cX fy bS dW
 refine cW (n := 11) (S := fun w' => aH w' gX (aZ b.addr b.aff b.slots (.slice Af b.free.length cf) (.slice Aa b.attrs.length ca)) 57 ∧ aH w' gA [.string a.f0, .string a.f1] 76) (ds := []) #[false, false, false, false, false, false, false, false, false, false, false] (by kernel_rfl) rfl rfl ⟨hX.out, hA.out⟩ (fun hHeld => ?_); refine bK nx.tab1 nx.bits1 (fun ab bj => ?_)
 refine tk 0 ab.out bj.out hHeld ?_ (hv := by exact fun _ aU => aI 57 (.tmp 4) rfl gX rfl _ _ _ aU.1 Try.underlying57 rfl HLB.out)
 refine pu 1 ab.out ?_
 refine tk 2 ab.out bj.out hHeld ?_ (hv := by exact fun _ aU => aI 76 (.tmp 7) rfl gA rfl _ _ _ aU.2 Try.underlying76 rfl (by kernel_rfl))
 refine pw (σ := Nat × Value) 2 #[true, true, true, true, true, true, true, true, true, false, false] (fun s => [(19, ej (cv a)), (20, .tuple #[s.2, .int .i64 11]), (15, .tuple #[s.2, .int .i64 11]), (21, s.2), (22, .int .i64 11), (11, .pointer (some ⟨s.1, 0, none⟩))]) (fun s w' => Aside0 (Below w.heap.size w w') ∧ Aside0 (Kd.R (Kd.int .u8) 5 w' base (fun _ => True) (.slice Af b.free.length cf) b.free) ∧ Aside0 (Kd.R kc 85 w' base (fun _ => True) (.slice Aa b.attrs.length ca) b.attrs) ∧ Aside0 (Kd.R (Kd.int .i64) 3 w' base (fun _ => True) (.slice As b.slots.length cs) b.slots) ∧ Aside0 (Kd.R (Kd.int .i64) 3 w' base (fun _ => True) (.slice Ap b.free.length cp) b.free) ∧ Aside0 (Kd.R g8 76 w' base (fun _ => True) (.slice Am M.length cm) M) ∧ Aside0 (aH w' gX (aZ b.addr b.aff b.slots (.slice Af b.free.length cf) (.slice Aa b.attrs.length ca)) 57) ∧ Aside0 (aH w' gY (da b.addr b.aff (.slice As b.slots.length cs) (.slice Ap b.free.length cp) (.slice Am M.length cm)) 62) ∧ Aside0 (aH w' gA [.string a.f0, .string a.f1] 76) ∧ Aside0 (aH w' gZ a9 57) ∧ Aside0 (aH w' gU dG 62) ∧ Aside0 (aH w' s.1 a9 57) ∧ Aside0 (w.heap.size ≤ s.1) ∧ Aside0 (gX ≠ s.1) ∧ Aside0 (gZ ≠ s.1) ∧ Aside0 (ea w' base s.2 nb)) ?_ ?_
 rotate_left
 ·intro en
  refine tw 3 8 ab.out (fun K hK => ?_) (fun K hK => ?_)
  ·skip
   refine gs Try.func50 #[.agg #[.string a.f0, .string a.f1]] (jI a _) ?_
   rintro e V3 ⟨rfl, I⟩
   refine ⟨_, rfl, ?_⟩
   (try replace hV := mv I hV); (try replace hQ := mv I hQ); replace hB := mv I hB; replace hF := mv I hF; replace hG := mv I hG; replace hS := mv I hS; replace hP := mv I hP; replace hM := mv I hM; replace hX := mv I hX; replace hY := mv I hY; replace hA := mv I hA; replace hZ := mv I hZ; replace hU := mv I hU; clear  I
   refine kn hK ⟨hX.out, hA.out⟩ (fun hHeld => ?_)
   clear hK K
   refine tw 4 8 ab.out (fun K hK => ?_) (fun K hK => ?_)
   ·skip
    refine gs Try.func51 #[.agg (aZ b.addr b.aff b.slots (.slice Af b.free.length cf) (.slice Aa b.attrs.length ca)).toArray, .int .u32 x, ej (cv a)] (HAT.out _ _ ⟨_, _, _, _, rfl, ⟨HL.out, (rr hF).1, (rr hF).2, (rr hG).1, (rr hG).2⟩⟩) ?_
    rintro e V4 ⟨v_, rfl, aW, I⟩
    refine ⟨_, rfl, ?_⟩
    have hV := ak (aW.lower (lb HBASE hB)); (try replace hQ := mv I hQ); replace hB := mv I hB; replace hF := mv I hF; replace hG := mv I hG; replace hS := mv I hS; replace hP := mv I hP; replace hM := mv I hM; replace hX := mv I hX; replace hY := mv I hY; replace hA := mv I hA; replace hZ := mv I hZ; replace hU := mv I hU; clear aW I
    refine kn hK ⟨hX.out, hA.out⟩ (fun hHeld => ?_)
    clear hK K
    refine pu 5 ab.out ?_
    refine pu 6 ab.out ?_
    refine pu 7 ab.out ?_
    refine on 8 ab.out (fun K hK => ?_)
    refine dM (by rfl) 57 rfl a9 bP ?_
    intro gQ V8 J aa I
    have cE := ge hB J
    have bk := ne hX J
    have a7 := ne hZ J
    (try replace hV := mv I hV)
    replace hB := mv I hB
    replace hF := mv I hF
    replace hG := mv I hG
    replace hS := mv I hS
    replace hP := mv I hP
    replace hM := mv I hM
    replace hX := mv I hX
    replace hY := mv I hY
    replace hA := mv I hA
    replace hZ := mv I hZ
    replace hU := mv I hU
    have hQ := ak aa
    clear J aa I
    refine kn hK ⟨hX.out, hA.out⟩ (fun hHeld => ?_)
    clear hK K
    exact nc (en ⟨gQ, v_⟩ _ ⟨hB, hF, hG, hS, hP, hM, hX, hY, hA, hZ, hU, hQ, cE, bk, a7, hV⟩)
   ·skip
    refine dM (by rfl) 57 rfl a9 bP ?_
    intro gQ V8 J aa I
    have cE := ge hB J
    have bk := ne hX J
    have a7 := ne hZ J
    (try replace hV := mv I hV)
    replace hB := mv I hB
    replace hF := mv I hF
    replace hG := mv I hG
    replace hS := mv I hS
    replace hP := mv I hP
    replace hM := mv I hM
    replace hX := mv I hX
    replace hY := mv I hY
    replace hA := mv I hA
    replace hZ := mv I hZ
    replace hU := mv I hU
    have hQ := ak aa
    clear J aa I
    refine kn hK ⟨hX.out, hA.out⟩ (fun hHeld => ?_)
    clear hK K
    refine on 4 ab.out (fun K hK => ?_)
    refine gs Try.func51 #[.agg (aZ b.addr b.aff b.slots (.slice Af b.free.length cf) (.slice Aa b.attrs.length ca)).toArray, .int .u32 x, ej (cv a)] (HAT.out _ _ ⟨_, _, _, _, rfl, ⟨HL.out, (rr hF).1, (rr hF).2, (rr hG).1, (rr hG).2⟩⟩) ?_
    rintro e V4 ⟨v_, rfl, aW, I⟩
    refine ⟨_, rfl, ?_⟩
    have hV := ak (aW.lower (lb HBASE hB)); (try replace hQ := mv I hQ); replace hB := mv I hB; replace hF := mv I hF; replace hG := mv I hG; replace hS := mv I hS; replace hP := mv I hP; replace hM := mv I hM; replace hX := mv I hX; replace hY := mv I hY; replace hA := mv I hA; replace hZ := mv I hZ; replace hU := mv I hU; clear aW I
    refine kn hK ⟨hX.out, hA.out⟩ (fun hHeld => ?_)
    clear hK K
    refine pu 5 ab.out ?_
    refine pu 6 ab.out ?_
    refine pu 7 ab.out ?_
    exact nc (en ⟨gQ, v_⟩ _ ⟨hB, hF, hG, hS, hP, hM, hX, hY, hA, hZ, hU, hQ, cE, bk, a7, hV⟩)
  ·skip
   refine dM (by rfl) 57 rfl a9 bP ?_
   intro gQ V8 J aa I
   have cE := ge hB J
   have bk := ne hX J
   have a7 := ne hZ J
   (try replace hV := mv I hV)
   replace hB := mv I hB
   replace hF := mv I hF
   replace hG := mv I hG
   replace hS := mv I hS
   replace hP := mv I hP
   replace hM := mv I hM
   replace hX := mv I hX
   replace hY := mv I hY
   replace hA := mv I hA
   replace hZ := mv I hZ
   replace hU := mv I hU
   have hQ := ak aa
   clear J aa I
   refine kn hK ⟨hX.out, hA.out⟩ (fun hHeld => ?_)
   clear hK K
   refine on 3 ab.out (fun K hK => ?_)
   refine gs Try.func50 #[.agg #[.string a.f0, .string a.f1]] (jI a _) ?_
   rintro e V3 ⟨rfl, I⟩
   refine ⟨_, rfl, ?_⟩
   (try replace hV := mv I hV); (try replace hQ := mv I hQ); replace hB := mv I hB; replace hF := mv I hF; replace hG := mv I hG; replace hS := mv I hS; replace hP := mv I hP; replace hM := mv I hM; replace hX := mv I hX; replace hY := mv I hY; replace hA := mv I hA; replace hZ := mv I hZ; replace hU := mv I hU; clear  I
   refine kn hK ⟨hX.out, hA.out⟩ (fun hHeld => ?_)
   clear hK K
   refine on 4 ab.out (fun K hK => ?_)
   refine gs Try.func51 #[.agg (aZ b.addr b.aff b.slots (.slice Af b.free.length cf) (.slice Aa b.attrs.length ca)).toArray, .int .u32 x, ej (cv a)] (HAT.out _ _ ⟨_, _, _, _, rfl, ⟨HL.out, (rr hF).1, (rr hF).2, (rr hG).1, (rr hG).2⟩⟩) ?_
   rintro e V4 ⟨v_, rfl, aW, I⟩
   refine ⟨_, rfl, ?_⟩
   have hV := ak (aW.lower (lb HBASE hB)); (try replace hQ := mv I hQ); replace hB := mv I hB; replace hF := mv I hF; replace hG := mv I hG; replace hS := mv I hS; replace hP := mv I hP; replace hM := mv I hM; replace hX := mv I hX; replace hY := mv I hY; replace hA := mv I hA; replace hZ := mv I hZ; replace hU := mv I hU; clear aW I
   refine kn hK ⟨hX.out, hA.out⟩ (fun hHeld => ?_)
   clear hK K
   refine pu 5 ab.out ?_
   refine pu 6 ab.out ?_
   refine pu 7 ab.out ?_
   exact nc (en ⟨gQ, v_⟩ _ ⟨hB, hF, hG, hS, hP, hM, hX, hY, hA, hZ, hU, hQ, cE, bk, a7, hV⟩)
 intro s w' hFF; obtain ⟨gQ, v_⟩ := s; simp only at hFF; obtain ⟨hB, hF, hG, hS, hP, hM, hX, hY, hA, hZ, hU, hQ, cE, bk, a7, hV⟩ := hFF; have aW := hV.out; obtain ⟨iD, oP, oQ, rfl, di, dO⟩ := aW; obtain ⟨A8, c8, rfl⟩ := Kd.R_slice di; obtain ⟨A9, c9, rfl⟩ := Kd.R_slice dO; have hC := ak di; have hD := ak dO; clear hV iD di dO
 refine nj ?_
 refine ow 9 ab.out (fun K hK => ?_)
 refine bA (by rfl) rfl 57 (.tmp 11) (.tmp 21) rfl gQ (aZ nb.addr nb.aff nb.slots (.slice A8 nb.free.length c8) (.slice A9 nb.attrs.length c9)) rfl rfl 57 _ hQ.out 68 (by kernel_rfl) (ag _ _ _ _ _ HNL.out) rfl (b4 _ _ _ _ _ rfl rfl) ?_
 intro V9 aa J; replace hB := gb hB cE J; replace hF := gr hF hQ J; replace hG := gr hG hQ J; replace hS := gr hS hQ J; replace hP := gr hP hQ J; replace hM := gr hM hQ J; replace hX := gn hX bk J; replace hY := gx hY hQ J; replace hA := gx hA hQ J; replace hZ := gn hZ a7 J; replace hU := gx hU hQ J; replace hC := gr hC hQ J; replace hD := gr hD hQ J; replace hQ := ak (aa); clear aa J
 refine hK.out _ _ ⟨hX.out, hA.out⟩ (fun hHeld => ?_)
 clear hK K
 refine pu 10 ab.out ?_
 refine dn ab.out ?_
 clear hHeld
 have HLN := ak (cg (aZ nb.addr nb.aff nb.slots (.slice A8 nb.free.length c8) (.slice A9 nb.attrs.length c9)) (ag _ _ _ _ _ HNL.out))
 have HZR := ak (fun v w h => oc v w (by rw [← HNB.out]; exact h))
 go_wp2_with (first
  | ((with_reducible refine ax (N := 23) rfl ?_); refine az rfl 76 (.tmp 7) rfl gA rfl _ _ _ hA.out Try.underlying76 rfl 2 (by kernel_rfl) rfl ?_)
  | (go_at_call 60; refine (HMY.out _).mono ?_; rintro e qC ⟨rfl, I⟩; have iK := mv I hB; have jr := mv I hF; have jo := mv I hG; have ic := mv I hS; have ie := mv I hP; have ig := mv I hM; have jk := mv I hX; have ib := mv I hY; have n9 := mv I hA; have ji := mv I hZ; have jl := mv I hU; have jm := mv I hQ; have jv := mv I hC; have jt := mv I hD; clear I hB hF hG hS hP hM hX hY hA hZ hU hQ hC hD)
  | ((with_reducible refine ax (N := 27) rfl ?_); refine ff (by rfl) ?_; refine az rfl 62 (.tmp 5) rfl gY rfl _ _ _ ib.out Try.underlying62 rfl 5 (by kernel_rfl) rfl ?_)
  | (go_at_call 100; refine (HIN.out _ (jd.of HM.out ic.out ie.out ig.out)).mono ?_; rintro e Dg ⟨rfl, I⟩; have iW := mv I iK; have jq := mv I jr; have jn := mv I jo; have iH := mv I ic; have iI := mv I ie; have iJ := mv I ig; have iS := mv I jk; have iu := mv I ib; have n8 := mv I n9; have iR := mv I ji; have iU := mv I jl; have iV := mv I jm; have ju := mv I jv; have js := mv I jt; clear I iK jr jo ic ie ig jk ib n9 ji jl jm jv jt)
  | ((with_reducible refine ax (N := 41) rfl ?_); refine az rfl 62 (.tmp 5) rfl gY rfl _ _ _ iu.out Try.underlying62 rfl 5 (by kernel_rfl) rfl ?_)
  | (go_at_call 62; refine (HOF.out _ (jd.of HM.out iH.out iI.out iJ.out)).mono ?_; rintro e Ot ⟨rfl, I⟩; have ml := mv I iW; have nU := mv I jq; have nT := mv I jn; have nO := mv I iH; have nR := mv I iI; have nS := mv I iJ; have mg := mv I iS; have mf := mv I iu; have oM := mv I n8; have me := mv I iR; have mi := mv I iU; have mj := mv I iV; have n7 := mv I ju; have nZ := mv I js; clear I iW jq jn iH iI iJ iS iu n8 iR iU iV ju js)
  | (refine aw (some 13) rfl rfl 76 rfl [.string ⟨#[]⟩, .string ⟨#[]⟩] (fun _ => by kernel_rfl) ?_; intro gV FB J aa I; have df := ge ml J; have fx := ne mg J; have eC := ne mf J; have kT := ne oM J; have jZ := ne me J; have dV := ne mi J; have tq := ne mj J; have rX := mv I ml; have rO := mv I nU; have rL := mv I nT; have rq := mv I nO; have rB := mv I nR; have rG := ak (Kd.R_mono (ok' := fun k_ => k_ ≠ gV) (Kd.R_below (Kd.R_bound nS.out) I) (fun k_ cD e_ => by have h_ := cD.2.2.1; omega)); have rk := mv I mg; have ri := mv I mf; have yn := mv I oM; have rb := mv I me; have rn := mv I mi; have rz := mv I mj; have rU := mv I n7; have rR := mv I nZ; have fI := ak (aa); clear J aa I ml nU nT nO nR nS mg mf oM me mi mj n7 nZ)
  | (refine aN rfl 76 (.tmp 13) (.tmp 44) rfl gV [.string (kb b x).f0, .string (kb b x).f1] rfl rfl 76 _ fI.out 2 (by kernel_rfl) rfl rfl (g9 (kb b x)) ?_; intro Cc aa J; have rW := gb rX df J; have rN := gr rO fI J; have rK := gr rL fI J; have rp := gr rq fI J; have rA := gr rB fI J; have rF := ak (Kd.R_mono (ok' := fun _ => True) (Kd.R_grown rG.out J (fun k_ cD e_ => cD (Option.some.inj e_))) (fun _ _ => trivial)); have rj := gx rk fI J; have rh := gx ri fI J; have ym := gn yn kT J; have ra := gx rb fI J; have rm := gx rn fI J; have ry := gx rz fI J; have rT := gr rU fI J; have rQ := gr rR fI J; have zT := ak (aa); clear aa J rX rO rL rq rB rG rk ri yn rb rn rz rU rR fI))
 have aj : Below Cc.heap.size Cc Cc.drew := bo (Below.refl _ _)
 have yh := mv aj rW; have xM := mv aj rN; have xF := mv aj rK; have xc := mv aj rp; have xl := mv aj rA; have xr := mv aj rF; have wT := mv aj rj; have wP := mv aj rh; have yl := mv aj ym; have wM := mv aj ra; have wW := mv aj rm; have xh := mv aj ry; have ya := mv aj rT; have xW := mv aj rQ
 clear aj rW rN rK rp rA rF rj rh ym ra rm ry rT rQ
 have hB := yh
 have hF := xM
 have hG := xF
 have hS := xc
 have hP := xl
 have hM := xr
 have hX := wT
 have hY := wP
 have hA := yl
 have hZ := wM
 have hU := wW
 have hQ := xh
 have hC := ya
 have hD := xW
 clear yh xM xF xc xl xr wT wP yl wM wW xh ya xW
 refine cW (n := 11) (S := fun w' => aH w' gX (aZ b.addr b.aff b.slots (.slice Af b.free.length cf) (.slice Aa b.attrs.length ca)) 57 ∧ aH w' gY (da b.addr b.aff (.slice As b.slots.length cs) (.slice Ap b.free.length cp) (.slice Am M.length cm)) 62 ∧ aH w' gQ (aZ nb.addr nb.aff nb.slots (.slice A8 nb.free.length c8) (.slice A9 nb.attrs.length c9)) 57) (ds := []) #[false, false, false, false, false, false, false, false, false, false, false] (by kernel_rfl) rfl rfl ⟨hX.out, hY.out, hQ.out⟩ (fun hHeld => ?_); refine bK uf.tab6 uf.bits6 (fun ab bj => ?_)
 refine tk 0 ab.out bj.out hHeld ?_ (hv := by exact fun _ aU => aI 57 (.tmp 4) rfl gX rfl _ _ _ aU.1 Try.underlying57 rfl HLB.out)
 refine tk 1 ab.out bj.out hHeld ?_ (hv := by exact fun _ aU => aI 62 (.tmp 5) rfl gY rfl _ _ _ aU.2.1 Try.underlying62 rfl (by kernel_rfl))
 refine pu 2 ab.out ?_
 refine pu 3 ab.out ?_
 refine pu 4 ab.out ?_
 refine tk 5 ab.out bj.out hHeld ?_ (hv := by exact fun _ aU => aI 57 (.tmp 11) rfl gQ rfl _ _ _ aU.2.2 Try.underlying57 rfl HLN.out)
 refine on 6 ab.out (fun K hK => ?_)
 refine gs Try.func43 #[.agg (aZ nb.addr nb.aff nb.slots (.slice A8 nb.free.length c8) (.slice A9 nb.attrs.length c9)).toArray] (HZR.out _ _ ⟨_, _, _, _, rfl, ⟨HNL.out, (rr hC).1, (rr hC).2, (rr hD).1, (rr hD).2⟩⟩) ?_
 rintro e V6 ⟨rfl, I⟩
 refine ⟨_, rfl, ?_⟩
 replace hB := mv I hB; replace hF := mv I hF; replace hG := mv I hG; replace hS := mv I hS; replace hP := mv I hP; replace hM := mv I hM; replace hX := mv I hX; replace hY := mv I hY; replace hA := mv I hA; replace hZ := mv I hZ; replace hU := mv I hU; replace hQ := mv I hQ; replace hC := mv I hC; replace hD := mv I hD
 refine kn hK ⟨hX.out, hY.out, hQ.out⟩ (fun hHeld => ?_)
 clear hK K
 refine pu 7 ab.out ?_
 refine ow 8 ab.out (fun K hK => ?_)
 refine bA (by rfl) rfl 57 (.tmp 8) (.tmp 47) rfl gZ (aZ b.addr b.aff b.slots (.slice Af b.free.length cf) (.slice Aa b.attrs.length ca)) rfl rfl 57 _ hZ.out 68 (by kernel_rfl) (ag _ _ _ _ _ HL.out) rfl (b4 _ _ _ _ _ rfl rfl) ?_
 intro V8 aa J; replace hB := gb hB bN J; replace hF := gr hF hZ J; replace hG := gr hG hZ J; replace hS := gr hS hZ J; replace hP := gr hP hZ J; replace hM := gr hM hZ J; replace hX := gn hX aG J; replace hY := gx hY hZ J; replace hA := gx hA hZ J; replace hU := gx hU hZ J; replace hQ := gm hQ a7 J; replace hC := gr hC hZ J; replace hD := gr hD hZ J; replace hZ := ak (aa); clear aa J
 refine hK.out _ _ ⟨hX.out, hY.out, hQ.out⟩ (fun hHeld => ?_)
 clear hK K
 refine ow 9 ab.out (fun K hK => ?_)
 refine bA (by rfl) rfl 62 (.tmp 9) (.tmp 48) rfl gU (da b.addr b.aff (.slice As b.slots.length cs) (.slice Ap b.free.length cp) (.slice Am M.length cm)) rfl rfl 62 _ hU.out 5 (by kernel_rfl) rfl rfl (dJ _ _ rfl rfl rfl) ?_
 intro V9 aa J; replace hB := gb hB fu J; replace hF := gr hF hU J; replace hG := gr hG hU J; replace hS := gr hS hU J; replace hP := gr hP hU J; replace hM := gr hM hU J; replace hX := gx hX hU J; replace hY := gn hY dw J; replace hA := gx hA hU J; replace hZ := gx hZ hU J; replace hQ := gx hQ hU J; replace hC := gr hC hU J; replace hD := gr hD hU J; replace hU := ak (aa); clear aa J
 refine hK.out _ _ ⟨hX.out, hY.out, hQ.out⟩ (fun hHeld => ?_)
 clear hK K
 refine pu 10 ab.out ?_
 refine dn ab.out ?_
 clear hHeld
 go_wp2_with fail
 refine bodyPost_ret (eK rfl _ _ _ gZ gU 57 62 _ _ _ _ rfl hZ.out rfl Try.underlying57 (by first | exact HLB.out | exact HLN.out) rfl hU.out rfl Try.underlying62 (by kernel_rfl)) rfl ⟨_, _, b, rfl, ?_, ?_, ?_, hB.out⟩
 ·exact HG.out
 ·exact ⟨HL.out, _, _, rfl, hF.out, hG.out⟩
 ·exact ⟨_, _, _, rfl, hS.out, hP.out, by rw [← HM.out]; exact hM.out⟩
set_option maxHeartbeats 16000000 in
set_option maxRecDepth 100000 in
theorem CF (b : Bk) (hg : RG b) (x : Int) (h0 : 0 ≤ x) (h1 : x < 4294967296) (a : kz) (e7 : a.f0.size ≤ 9223372036854775807) (fE : a.f1.size ≤ 9223372036854775807) (hma : eo (cv a) = true) (hin : bV x = b.addr) (hh : gw b x = false) (v v2 : Value) (w : World) (base : Nat) (hbase : base ≤ w.heap.size) (hO : ea w base v b) (hR : eG w base v2 b) :
  Calls Try.prog 83 #[v, v2, .int .u32 x, .agg #[.string a.f0, .string a.f1]] w fun e w' => ∃ v1 v2 b', e = .returned (.tuple #[v1, v2, .bool true]) ∧ RG b' ∧ ea w' base v1 b' ∧ eG w' base v2 b' ∧ Below w.heap.size w w' := by
 obtain ⟨hl, vf, va, rfl, hf, ha⟩ := hO
 obtain ⟨vs, vp, vm, rfl, hs, hp, hm⟩ := hR
 obtain ⟨Af, cf, rfl⟩ := Kd.R_slice hf
 obtain ⟨Aa, ca, rfl⟩ := Kd.R_slice ha
 obtain ⟨As, cs, rfl⟩ := Kd.R_slice hs
 obtain ⟨Ap, cp, rfl⟩ := Kd.R_slice hp
 obtain ⟨M, hM⟩ : ∃ M, M = b.attrs.map vc := ⟨_, rfl⟩
 rw [← hM] at hm
 obtain ⟨Am, cm, rfl⟩ := Kd.R_slice hm
 have HL := ak hl
 have HM := ak hM
 have bw := ak hf
 have dY := ak ha
 have aX := ak hs
 have dT := ak hp
 have bD := ak hm
 have HG := ak hg
 have ae := ak (Below.refl w.heap.size w)
 have HBASE := ak hbase
 have HLB := ak (cg (aZ b.addr b.aff b.slots (.slice Af b.free.length cf) (.slice Aa b.attrs.length ca)) (ag _ _ _ _ _ HL.out))
 have e0 : ox b x = false := by unfold gw at hh; rw [decide_eq_true hin, Bool.true_and] at hh; exact hh
 have e1 : pa b x (cv a) = true := by unfold pa; rw [hg.right, hma, decide_eq_true hin]; rfl
 have e2 : qA b x (cv a) = 0 := by unfold qA; rw [if_pos e1, if_neg (by rw [e0]; decide)]
 have e3 : mY b x (cv a) = fG b (x % 64).toNat (cv a) := by
  unfold mY
  rw [if_pos e1, if_neg (by rw [e0]; decide)]
  have : x - b.addr = x % 64 := by unfold bV at hin; omega
  rw [this]
 have hrg := hg.give (x % 64).toNat (by omega) (by
  unfold ox at e0
  have : x - b.addr = x % 64 := by unfold bV at hin; omega
  rw [this] at e0
  simpa using e0) (cv a) hma
 have hat := fun v w h => nC b hg.ok x h0 h1 (cv a) v w h
 rw [e2, e3] at hat
 have hnl : (fG b (x % 64).toNat (cv a)).slots.length = 64 := hrg.l64
 have hra := fun v w h => zC b HL.out (by have := hg.sum; omega) (by have := hg.na; omega) ((AA _).2 hg.nd) x h0 h1 (cv a) v w h
 obtain ⟨nb, hnb⟩ : ∃ nb, nb = fG b (x % 64).toNat (cv a) := ⟨_, rfl⟩
 rw [← hnb] at hat hnl hra hrg
 have HRA := ak hra
 have HRG := ak hrg
 have HNL := ak hnl
 have HAT := ak hat
 have HNB := ak hnb
 have HMY := ak (fun w => qj a e7 fE w)
 have HIN := ak (fun w h => td b M As Ap Am cs cp cm w h x h0 h1)
 have HOF := ak (fun w h => oe b hl hg.ok.s8 (fun s hs => (hg.s0 s hs).2) M As Ap Am cs cp cm w h x h0 h1)
 rw [hma] at HMY
 rw [decide_eq_true hin] at HIN
 rw [hh] at HOF
 clear hma hin hh e0 hl hM hf ha hs hp hm hg e1 e2 e3 hat hnl hnb hbase hra hrg
 go_enter Try.func83, Try.ntmps83
 go_wp2_with (first
  | (refine aE rfl 57 (.tmp 0) rfl _ rfl ?_; intro gX W1 J aa I; have bQ := ge ae J; have ai := ak (ae.out.trans (I.mono ae.out.size)); have bp := mv I bw; have dp := mv I dY; have bd := mv I aX; have cZ := mv I dT; have bH := mv I bD; have ah := ak (aa); clear J aa I ae bw dY aX dT bD)
  | (refine aE rfl 62 (.tmp 1) rfl _ rfl ?_; intro gY W2 J aa I; have iX := ge ai J; have fB := ne ah J; have av := mv I ai; have bT := mv I bp; have dF := mv I dp; have bC := mv I bd; have dd := mv I cZ; have b9 := mv I bH; have au := mv I ah; have b8 := ak (aa); clear J aa I ai bp dp bd cZ bH ah)
  | (refine aE rfl 76 (.tmp 3) rfl _ rfl ?_; intro gA W3 J aa I; have ku := ge av J; have eD := ne au J; have vY := ne b8 J; have aD := mv I av; have cj := mv I bT; have dQ := mv I dF; have bU := mv I bC; have dA := mv I dd; have cN := ak (Kd.R_mono (ok' := fun k_ => True) (Kd.R_below b9.out I) (fun _ _ => trivial)); have aA := mv I au; have b7 := mv I b8; have dq := ak (aa); clear J aa I av bT dF bC dd b9 au b8)
  | (refine aw (some 8) rfl rfl 57 rfl a9 bP ?_; intro gZ W4 J aa I; have bN := ge aD J; have aG := ne aA J; have fM := ne b7 J; have gf := ne dq J; have aY := mv I aD; have ch := mv I cj; have dE := mv I dQ; have cx := mv I bU; have dX := mv I dA; have cR := mv I cN; have aV := mv I aA; have bZ := mv I b7; have dI := mv I dq; have a8 := ak (aa); clear J aa I aD cj dQ bU dA cN aA b7 dq)
  | (refine aw (some 9) rfl rfl 62 rfl dG (fun _ => by kernel_rfl) ?_; intro gU W5 J aa I; have fu := ge aY J; have gC := ne aV J; have dw := ne bZ J; have vZ := ne dI J; have gB := ne a8 J; have bf := mv I aY; have cb := mv I ch; have de := mv I dE; have cJ := mv I cx; have ee := mv I dX; have cG := mv I cR; have bb := mv I aV; have cB := mv I bZ; have eJ := mv I dI; have bu := mv I a8; have eH := ak (aa); clear J aa I aY ch dE cx dX cR aV bZ dI a8))
 have aj : Below W5.heap.size W5 W5.drew := bo (Below.refl _ _)
 have bG := mv aj bf; have cQ := mv aj cb; have dt := mv aj de; have cY := mv aj cJ; have ef := mv aj ee; have dD := mv aj cG; have bh := mv aj bb; have cX := mv aj cB; have fy := mv aj eJ; have bS := mv aj bu; have dW := mv aj eH
 clear aj bf cb de cJ ee cG bb cB eJ bu eH
 have hB := bG
 have hF := cQ
 have hG := dt
 have hS := cY
 have hP := ef
 have hM := dD
 have hX := bh
 have hY := cX
 have hA := fy
 have hZ := bS
 have hU := dW
 clear bG cQ dt cY ef dD bh cX fy bS dW
 refine cW (n := 11) (S := fun w' => aH w' gX (aZ b.addr b.aff b.slots (.slice Af b.free.length cf) (.slice Aa b.attrs.length ca)) 57 ∧ aH w' gA [.string a.f0, .string a.f1] 76) (ds := []) #[false, false, false, false, false, false, false, false, false, false, false] (by kernel_rfl) rfl rfl ⟨hX.out, hA.out⟩ (fun hHeld => ?_); refine bK nx.tab1 nx.bits1 (fun ab bj => ?_)
 refine tk 0 ab.out bj.out hHeld ?_ (hv := by exact fun _ aU => aI 57 (.tmp 4) rfl gX rfl _ _ _ aU.1 Try.underlying57 rfl HLB.out)
 refine pu 1 ab.out ?_
 refine tk 2 ab.out bj.out hHeld ?_ (hv := by exact fun _ aU => aI 76 (.tmp 7) rfl gA rfl _ _ _ aU.2 Try.underlying76 rfl (by kernel_rfl))
 refine pw (σ := Nat × Value) 2 #[true, true, true, true, true, true, true, true, true, false, false] (fun s => [(19, ej (cv a)), (20, .tuple #[s.2, .int .i64 0]), (15, .tuple #[s.2, .int .i64 0]), (21, s.2), (22, .int .i64 0), (11, .pointer (some ⟨s.1, 0, none⟩))]) (fun s w' => Aside0 (Below w.heap.size w w') ∧ Aside0 (Kd.R (Kd.int .u8) 5 w' base (fun _ => True) (.slice Af b.free.length cf) b.free) ∧ Aside0 (Kd.R kc 85 w' base (fun _ => True) (.slice Aa b.attrs.length ca) b.attrs) ∧ Aside0 (Kd.R (Kd.int .i64) 3 w' base (fun _ => True) (.slice As b.slots.length cs) b.slots) ∧ Aside0 (Kd.R (Kd.int .i64) 3 w' base (fun _ => True) (.slice Ap b.free.length cp) b.free) ∧ Aside0 (Kd.R g8 76 w' base (fun _ => True) (.slice Am M.length cm) M) ∧ Aside0 (aH w' gX (aZ b.addr b.aff b.slots (.slice Af b.free.length cf) (.slice Aa b.attrs.length ca)) 57) ∧ Aside0 (aH w' gY (da b.addr b.aff (.slice As b.slots.length cs) (.slice Ap b.free.length cp) (.slice Am M.length cm)) 62) ∧ Aside0 (aH w' gA [.string a.f0, .string a.f1] 76) ∧ Aside0 (aH w' gZ a9 57) ∧ Aside0 (aH w' gU dG 62) ∧ Aside0 (aH w' s.1 a9 57) ∧ Aside0 (w.heap.size ≤ s.1) ∧ Aside0 (gX ≠ s.1) ∧ Aside0 (gZ ≠ s.1) ∧ Aside0 (ea w' base s.2 nb)) ?_ ?_
 rotate_left
 ·intro en
  refine tw 3 8 ab.out (fun K hK => ?_) (fun K hK => ?_)
  ·skip
   refine gs Try.func50 #[.agg #[.string a.f0, .string a.f1]] (jI a _) ?_
   rintro e V3 ⟨rfl, I⟩
   refine ⟨_, rfl, ?_⟩
   (try replace hV := mv I hV); (try replace hQ := mv I hQ); replace hB := mv I hB; replace hF := mv I hF; replace hG := mv I hG; replace hS := mv I hS; replace hP := mv I hP; replace hM := mv I hM; replace hX := mv I hX; replace hY := mv I hY; replace hA := mv I hA; replace hZ := mv I hZ; replace hU := mv I hU; clear  I
   refine kn hK ⟨hX.out, hA.out⟩ (fun hHeld => ?_)
   clear hK K
   refine tw 4 8 ab.out (fun K hK => ?_) (fun K hK => ?_)
   ·skip
    refine gs Try.func51 #[.agg (aZ b.addr b.aff b.slots (.slice Af b.free.length cf) (.slice Aa b.attrs.length ca)).toArray, .int .u32 x, ej (cv a)] (HAT.out _ _ ⟨_, _, _, _, rfl, ⟨HL.out, (rr hF).1, (rr hF).2, (rr hG).1, (rr hG).2⟩⟩) ?_
    rintro e V4 ⟨v_, rfl, aW, I⟩
    refine ⟨_, rfl, ?_⟩
    have hV := ak (aW.lower (lb HBASE hB)); (try replace hQ := mv I hQ); replace hB := mv I hB; replace hF := mv I hF; replace hG := mv I hG; replace hS := mv I hS; replace hP := mv I hP; replace hM := mv I hM; replace hX := mv I hX; replace hY := mv I hY; replace hA := mv I hA; replace hZ := mv I hZ; replace hU := mv I hU; clear aW I
    refine kn hK ⟨hX.out, hA.out⟩ (fun hHeld => ?_)
    clear hK K
    refine pu 5 ab.out ?_
    refine pu 6 ab.out ?_
    refine pu 7 ab.out ?_
    refine on 8 ab.out (fun K hK => ?_)
    refine dM (by rfl) 57 rfl a9 bP ?_
    intro gQ V8 J aa I
    have cE := ge hB J
    have bk := ne hX J
    have a7 := ne hZ J
    (try replace hV := mv I hV)
    replace hB := mv I hB
    replace hF := mv I hF
    replace hG := mv I hG
    replace hS := mv I hS
    replace hP := mv I hP
    replace hM := mv I hM
    replace hX := mv I hX
    replace hY := mv I hY
    replace hA := mv I hA
    replace hZ := mv I hZ
    replace hU := mv I hU
    have hQ := ak aa
    clear J aa I
    refine kn hK ⟨hX.out, hA.out⟩ (fun hHeld => ?_)
    clear hK K
    exact nc (en ⟨gQ, v_⟩ _ ⟨hB, hF, hG, hS, hP, hM, hX, hY, hA, hZ, hU, hQ, cE, bk, a7, hV⟩)
   ·skip
    refine dM (by rfl) 57 rfl a9 bP ?_
    intro gQ V8 J aa I
    have cE := ge hB J
    have bk := ne hX J
    have a7 := ne hZ J
    (try replace hV := mv I hV)
    replace hB := mv I hB
    replace hF := mv I hF
    replace hG := mv I hG
    replace hS := mv I hS
    replace hP := mv I hP
    replace hM := mv I hM
    replace hX := mv I hX
    replace hY := mv I hY
    replace hA := mv I hA
    replace hZ := mv I hZ
    replace hU := mv I hU
    have hQ := ak aa
    clear J aa I
    refine kn hK ⟨hX.out, hA.out⟩ (fun hHeld => ?_)
    clear hK K
    refine on 4 ab.out (fun K hK => ?_)
    refine gs Try.func51 #[.agg (aZ b.addr b.aff b.slots (.slice Af b.free.length cf) (.slice Aa b.attrs.length ca)).toArray, .int .u32 x, ej (cv a)] (HAT.out _ _ ⟨_, _, _, _, rfl, ⟨HL.out, (rr hF).1, (rr hF).2, (rr hG).1, (rr hG).2⟩⟩) ?_
    rintro e V4 ⟨v_, rfl, aW, I⟩
    refine ⟨_, rfl, ?_⟩
    have hV := ak (aW.lower (lb HBASE hB)); (try replace hQ := mv I hQ); replace hB := mv I hB; replace hF := mv I hF; replace hG := mv I hG; replace hS := mv I hS; replace hP := mv I hP; replace hM := mv I hM; replace hX := mv I hX; replace hY := mv I hY; replace hA := mv I hA; replace hZ := mv I hZ; replace hU := mv I hU; clear aW I
    refine kn hK ⟨hX.out, hA.out⟩ (fun hHeld => ?_)
    clear hK K
    refine pu 5 ab.out ?_
    refine pu 6 ab.out ?_
    refine pu 7 ab.out ?_
    exact nc (en ⟨gQ, v_⟩ _ ⟨hB, hF, hG, hS, hP, hM, hX, hY, hA, hZ, hU, hQ, cE, bk, a7, hV⟩)
  ·skip
   refine dM (by rfl) 57 rfl a9 bP ?_
   intro gQ V8 J aa I
   have cE := ge hB J
   have bk := ne hX J
   have a7 := ne hZ J
   (try replace hV := mv I hV)
   replace hB := mv I hB
   replace hF := mv I hF
   replace hG := mv I hG
   replace hS := mv I hS
   replace hP := mv I hP
   replace hM := mv I hM
   replace hX := mv I hX
   replace hY := mv I hY
   replace hA := mv I hA
   replace hZ := mv I hZ
   replace hU := mv I hU
   have hQ := ak aa
   clear J aa I
   refine kn hK ⟨hX.out, hA.out⟩ (fun hHeld => ?_)
   clear hK K
   refine on 3 ab.out (fun K hK => ?_)
   refine gs Try.func50 #[.agg #[.string a.f0, .string a.f1]] (jI a _) ?_
   rintro e V3 ⟨rfl, I⟩
   refine ⟨_, rfl, ?_⟩
   (try replace hV := mv I hV); (try replace hQ := mv I hQ); replace hB := mv I hB; replace hF := mv I hF; replace hG := mv I hG; replace hS := mv I hS; replace hP := mv I hP; replace hM := mv I hM; replace hX := mv I hX; replace hY := mv I hY; replace hA := mv I hA; replace hZ := mv I hZ; replace hU := mv I hU; clear  I
   refine kn hK ⟨hX.out, hA.out⟩ (fun hHeld => ?_)
   clear hK K
   refine on 4 ab.out (fun K hK => ?_)
   refine gs Try.func51 #[.agg (aZ b.addr b.aff b.slots (.slice Af b.free.length cf) (.slice Aa b.attrs.length ca)).toArray, .int .u32 x, ej (cv a)] (HAT.out _ _ ⟨_, _, _, _, rfl, ⟨HL.out, (rr hF).1, (rr hF).2, (rr hG).1, (rr hG).2⟩⟩) ?_
   rintro e V4 ⟨v_, rfl, aW, I⟩
   refine ⟨_, rfl, ?_⟩
   have hV := ak (aW.lower (lb HBASE hB)); (try replace hQ := mv I hQ); replace hB := mv I hB; replace hF := mv I hF; replace hG := mv I hG; replace hS := mv I hS; replace hP := mv I hP; replace hM := mv I hM; replace hX := mv I hX; replace hY := mv I hY; replace hA := mv I hA; replace hZ := mv I hZ; replace hU := mv I hU; clear aW I
   refine kn hK ⟨hX.out, hA.out⟩ (fun hHeld => ?_)
   clear hK K
   refine pu 5 ab.out ?_
   refine pu 6 ab.out ?_
   refine pu 7 ab.out ?_
   exact nc (en ⟨gQ, v_⟩ _ ⟨hB, hF, hG, hS, hP, hM, hX, hY, hA, hZ, hU, hQ, cE, bk, a7, hV⟩)
 intro s w' hFF; obtain ⟨gQ, v_⟩ := s; simp only at hFF; obtain ⟨hB, hF, hG, hS, hP, hM, hX, hY, hA, hZ, hU, hQ, cE, bk, a7, hV⟩ := hFF; have aW := hV.out; obtain ⟨iD, oP, oQ, rfl, di, dO⟩ := aW; obtain ⟨A8, c8, rfl⟩ := Kd.R_slice di; obtain ⟨A9, c9, rfl⟩ := Kd.R_slice dO; have hC := ak di; have hD := ak dO; clear hV iD di dO
 refine nj ?_
 refine ow 9 ab.out (fun K hK => ?_)
 refine bA (by rfl) rfl 57 (.tmp 11) (.tmp 21) rfl gQ (aZ nb.addr nb.aff nb.slots (.slice A8 nb.free.length c8) (.slice A9 nb.attrs.length c9)) rfl rfl 57 _ hQ.out 68 (by kernel_rfl) (ag _ _ _ _ _ HNL.out) rfl (b4 _ _ _ _ _ rfl rfl) ?_
 intro V9 aa J; replace hB := gb hB cE J; replace hF := gr hF hQ J; replace hG := gr hG hQ J; replace hS := gr hS hQ J; replace hP := gr hP hQ J; replace hM := gr hM hQ J; replace hX := gn hX bk J; replace hY := gx hY hQ J; replace hA := gx hA hQ J; replace hZ := gn hZ a7 J; replace hU := gx hU hQ J; replace hC := gr hC hQ J; replace hD := gr hD hQ J; replace hQ := ak (aa); clear aa J
 refine hK.out _ _ ⟨hX.out, hA.out⟩ (fun hHeld => ?_)
 clear hK K
 refine pu 10 ab.out ?_
 refine dn ab.out ?_
 clear hHeld
 have HLN := ak (cg (aZ nb.addr nb.aff nb.slots (.slice A8 nb.free.length c8) (.slice A9 nb.attrs.length c9)) (ag _ _ _ _ _ HNL.out))
 go_wp2_with (first
  | ((with_reducible refine ax (N := 23) rfl ?_); refine az rfl 76 (.tmp 7) rfl gA rfl _ _ _ hA.out Try.underlying76 rfl 2 (by kernel_rfl) rfl ?_)
  | (go_at_call 60; refine (HMY.out _).mono ?_; rintro e qC ⟨rfl, I⟩; have iK := mv I hB; have jr := mv I hF; have jo := mv I hG; have ic := mv I hS; have ie := mv I hP; have ig := mv I hM; have jk := mv I hX; have ib := mv I hY; have n9 := mv I hA; have ji := mv I hZ; have jl := mv I hU; have jm := mv I hQ; have jv := mv I hC; have jt := mv I hD; clear I hB hF hG hS hP hM hX hY hA hZ hU hQ hC hD)
  | ((with_reducible refine ax (N := 27) rfl ?_); refine ff (by rfl) ?_; refine az rfl 62 (.tmp 5) rfl gY rfl _ _ _ ib.out Try.underlying62 rfl 5 (by kernel_rfl) rfl ?_)
  | (go_at_call 100; refine (HIN.out _ (jd.of HM.out ic.out ie.out ig.out)).mono ?_; rintro e Dg ⟨rfl, I⟩; have iW := mv I iK; have jq := mv I jr; have jn := mv I jo; have iH := mv I ic; have iI := mv I ie; have iJ := mv I ig; have iS := mv I jk; have iu := mv I ib; have n8 := mv I n9; have iR := mv I ji; have iU := mv I jl; have iV := mv I jm; have ju := mv I jv; have js := mv I jt; clear I iK jr jo ic ie ig jk ib n9 ji jl jm jv jt)
  | ((with_reducible refine ax (N := 41) rfl ?_); refine az rfl 62 (.tmp 5) rfl gY rfl _ _ _ iu.out Try.underlying62 rfl 5 (by kernel_rfl) rfl ?_)
  | (go_at_call 62; refine (HOF.out _ (jd.of HM.out iH.out iI.out iJ.out)).mono ?_; rintro e Ot ⟨rfl, I⟩; have ml := mv I iW; have nU := mv I jq; have nT := mv I jn; have nO := mv I iH; have nR := mv I iI; have nS := mv I iJ; have mg := mv I iS; have mf := mv I iu; have oM := mv I n8; have me := mv I iR; have mi := mv I iU; have mj := mv I iV; have n7 := mv I ju; have nZ := mv I js; clear I iW jq jn iH iI iJ iS iu n8 iR iU iV ju js)
  | (refine aw (some 13) rfl rfl 76 rfl [.string ⟨#[]⟩, .string ⟨#[]⟩] (fun _ => by kernel_rfl) ?_; intro gV FB J aa I; have df := ge ml J; have fx := ne mg J; have eC := ne mf J; have kT := ne oM J; have jZ := ne me J; have dV := ne mi J; have tq := ne mj J; have rX := mv I ml; have rO := mv I nU; have rL := mv I nT; have rq := mv I nO; have rB := mv I nR; have rG := ak (Kd.R_mono (ok' := fun k_ => k_ ≠ gV) (Kd.R_below (Kd.R_bound nS.out) I) (fun k_ cD e_ => by have h_ := cD.2.2.1; omega)); have rk := mv I mg; have ri := mv I mf; have yn := mv I oM; have rb := mv I me; have rn := mv I mi; have rz := mv I mj; have rU := mv I n7; have rR := mv I nZ; have fI := ak (aa); clear J aa I ml nU nT nO nR nS mg mf oM me mi mj n7 nZ)
  | (refine aN rfl 76 (.tmp 13) (.tmp 44) rfl gV [.string (kb b x).f0, .string (kb b x).f1] rfl rfl 76 _ fI.out 2 (by kernel_rfl) rfl rfl (g9 (kb b x)) ?_; intro Cc aa J; have rW := gb rX df J; have rN := gr rO fI J; have rK := gr rL fI J; have rp := gr rq fI J; have rA := gr rB fI J; have rF := ak (Kd.R_mono (ok' := fun _ => True) (Kd.R_grown rG.out J (fun k_ cD e_ => cD (Option.some.inj e_))) (fun _ _ => trivial)); have rj := gx rk fI J; have rh := gx ri fI J; have ym := gn yn kT J; have ra := gx rb fI J; have rm := gx rn fI J; have ry := gx rz fI J; have rT := gr rU fI J; have rQ := gr rR fI J; have zT := ak (aa); clear aa J rX rO rL rq rB rG rk ri yn rb rn rz rU rR fI))
 have aj : Below Cc.heap.size Cc Cc.drew := bo (Below.refl _ _)
 have yh := mv aj rW; have xM := mv aj rN; have xF := mv aj rK; have xc := mv aj rp; have xl := mv aj rA; have xr := mv aj rF; have wT := mv aj rj; have wP := mv aj rh; have yl := mv aj ym; have wM := mv aj ra; have wW := mv aj rm; have xh := mv aj ry; have ya := mv aj rT; have xW := mv aj rQ
 clear aj rW rN rK rp rA rF rj rh ym ra rm ry rT rQ
 have hB := yh
 have hF := xM
 have hG := xF
 have hS := xc
 have hP := xl
 have hM := xr
 have hX := wT
 have hY := wP
 have hA := yl
 have hZ := wM
 have hU := wW
 have hQ := xh
 have hC := ya
 have hD := xW
 clear yh xM xF xc xl xr wT wP yl wM wW xh ya xW
 refine cW (n := 10) (S := fun w' => aH w' gX (aZ b.addr b.aff b.slots (.slice Af b.free.length cf) (.slice Aa b.attrs.length ca)) 57 ∧ aH w' gY (da b.addr b.aff (.slice As b.slots.length cs) (.slice Ap b.free.length cp) (.slice Am M.length cm)) 62 ∧ aH w' gA [.string a.f0, .string a.f1] 76 ∧ aH w' gQ (aZ nb.addr nb.aff nb.slots (.slice A8 nb.free.length c8) (.slice A9 nb.attrs.length c9)) 57) (ds := []) #[false, false, false, false, false, false, false, false, false, false] (by kernel_rfl) rfl rfl ⟨hX.out, hY.out, hA.out, hQ.out⟩ (fun hHeld => ?_); refine bK ue.tab7 ue.bits7 (fun ab bj => ?_)
 refine tk 0 ab.out bj.out hHeld ?_ (hv := by exact fun _ aU => aI 57 (.tmp 11) rfl gQ rfl _ _ _ aU.2.2.2 Try.underlying57 rfl HLN.out)
 refine tk 1 ab.out bj.out hHeld ?_ (hv := by exact fun _ aU => aI 62 (.tmp 5) rfl gY rfl _ _ _ aU.2.1 Try.underlying62 rfl (by kernel_rfl))
 refine pu 2 ab.out ?_
 refine tk 3 ab.out bj.out hHeld ?_ (hv := by exact fun _ aU => aI 76 (.tmp 7) rfl gA rfl _ _ _ aU.2.2.1 Try.underlying76 rfl (by kernel_rfl))
 refine pu 5 ab.out ?_
 refine pu 6 ab.out ?_
 refine on 4 ab.out (fun K hK => ?_)
 refine gs Try.func107 #[.agg (da b.addr b.aff (.slice As b.slots.length cs) (.slice Ap b.free.length cp) (.slice Am M.length cm)).toArray, .int .u32 x, .agg #[.string a.f0, .string a.f1]] (HRA.out _ _ ⟨M, As, cs, Ap, cp, Am, cm, rfl, (jd.of HM.out hS.out hP.out hM.out)⟩) ?_
 rintro e V4 ⟨v9, rfl, fC, I⟩
 refine ⟨_, rfl, ?_⟩
 have hRQ := ak (eG.lower' fC (lb HBASE hB)); replace hB := mv I hB; replace hF := mv I hF; replace hG := mv I hG; replace hS := mv I hS; replace hP := mv I hP; replace hM := mv I hM; replace hX := mv I hX; replace hY := mv I hY; replace hA := mv I hA; replace hZ := mv I hZ; replace hU := mv I hU; replace hQ := mv I hQ; replace hC := mv I hC; replace hD := mv I hD; clear fC I; have Sv := hRQ.out; obtain ⟨tT, qE, qF, rfl, fZ, fb, ep⟩ := Sv; obtain ⟨A1, c1, rfl⟩ := Kd.R_slice fZ; obtain ⟨A2, c2, rfl⟩ := Kd.R_slice fb; obtain ⟨NM, hNM⟩ : ∃ NM, NM = nb.attrs.map vc := ⟨_, rfl⟩; rw [← hNM] at ep; have HNM := ak hNM; obtain ⟨A3, c3, rfl⟩ := Kd.R_slice ep; have hI := ak fZ; have hJ := ak fb; have hT := ak ep; clear hRQ hNM fZ fb ep
 refine kn hK ⟨hX.out, hY.out, hA.out, hQ.out⟩ (fun hHeld => ?_)
 clear hK K
 refine ow 7 ab.out (fun K hK => ?_)
 refine bA (by rfl) rfl 57 (.tmp 8) (.tmp 55) rfl gZ (aZ nb.addr nb.aff nb.slots (.slice A8 nb.free.length c8) (.slice A9 nb.attrs.length c9)) rfl rfl 57 _ hZ.out 68 (by kernel_rfl) (ag _ _ _ _ _ HNL.out) rfl (b4 _ _ _ _ _ rfl rfl) ?_
 intro V7 aa J; replace hB := gb hB bN J; replace hF := gr hF hZ J; replace hG := gr hG hZ J; replace hS := gr hS hZ J; replace hP := gr hP hZ J; replace hM := gr hM hZ J; replace hX := gn hX aG J; replace hY := gx hY hZ J; replace hA := gx hA hZ J; replace hU := gx hU hZ J; replace hQ := gm hQ a7 J; replace hC := gr hC hZ J; replace hD := gr hD hZ J; replace hI := gr hI hZ J; replace hJ := gr hJ hZ J; replace hT := gr hT hZ J; replace hZ := ak (aa); clear aa J
 refine hK.out _ _ ⟨hX.out, hY.out, hA.out, hQ.out⟩ (fun hHeld => ?_)
 clear hK K
 refine ow 8 ab.out (fun K hK => ?_)
 refine bA (by rfl) rfl 62 (.tmp 9) (.tmp 59) rfl gU (da nb.addr nb.aff (.slice A1 nb.slots.length c1) (.slice A2 nb.free.length c2) (.slice A3 NM.length c3)) rfl rfl 62 _ hU.out 5 (by kernel_rfl) rfl rfl (dJ _ _ rfl rfl rfl) ?_
 intro V8 aa J; replace hB := gb hB fu J; replace hF := gr hF hU J; replace hG := gr hG hU J; replace hS := gr hS hU J; replace hP := gr hP hU J; replace hM := gr hM hU J; replace hX := gx hX hU J; replace hY := gn hY dw J; replace hA := gx hA hU J; replace hZ := gx hZ hU J; replace hQ := gx hQ hU J; replace hC := gr hC hU J; replace hD := gr hD hU J; replace hI := gr hI hU J; replace hJ := gr hJ hU J; replace hT := gr hT hU J; replace hU := ak (aa); clear aa J
 refine hK.out _ _ ⟨hX.out, hY.out, hA.out, hQ.out⟩ (fun hHeld => ?_)
 clear hK K
 refine pu 9 ab.out ?_
 refine dn ab.out ?_
 clear hHeld
 go_wp2_with fail
 refine bodyPost_ret (eK rfl _ _ _ gZ gU 57 62 _ _ _ _ rfl hZ.out rfl Try.underlying57 (by first | exact HLB.out | exact HLN.out) rfl hU.out rfl Try.underlying62 (by kernel_rfl)) rfl ⟨_, _, nb, rfl, ?_, ?_, ?_, hB.out⟩
 ·exact HRG.out
 ·exact ⟨HNL.out, _, _, rfl, hC.out, hD.out⟩
 ·exact ⟨_, _, _, rfl, hI.out, hJ.out, by rw [← HNM.out]; exact hT.out⟩
theorem CI (b : Bk) (hg : RG b) (x : Int) (h0 : 0 ≤ x) (h1 : x < 4294967296) (a : kz) (e7 : a.f0.size ≤ 9223372036854775807) (fE : a.f1.size ≤ 9223372036854775807) (v v2 : Value) (w : World) (base : Nat) (hbase : base ≤ w.heap.size) (hO : ea w base v b) (hR : eG w base v2 b) :
  Calls Try.prog 83 #[v, v2, .int .u32 x, .agg #[.string a.f0, .string a.f1]] w fun e w' => ∃ v1 v2 b', e = .returned (.tuple #[v1, v2, .bool true]) ∧ RG b' ∧ ea w' base v1 b' ∧ eG w' base v2 b' ∧ Below w.heap.size w w' := by
 cases hma : eo (cv a) with
 | false => exact CH b hg x h0 h1 a e7 fE hma v v2 w base hbase hO hR
 | true =>
  by_cases hin : bV x = b.addr
  ·cases hh : gw b x with
   | true => exact zG b hg x h0 h1 a e7 fE hma hin hh v v2 w base hbase hO hR
   | false => exact CF b hg x h0 h1 a e7 fE hma hin hh v v2 w base hbase hO hR
  ·exact CG b hg x h0 h1 a e7 fE hma hin v v2 w base hbase hO hR
end Go.Proofs.Ytemhalnhbgkbcaa.V
end

section
namespace Go.Proofs.Ytemhalnhbgkbcaa.V
set_option maxHeartbeats 8000000 in
set_option maxRecDepth 100000 in
theorem zo (a : At) (id : ByteArray) (g : Nat) (w : World) (h : aH w g [.string id] 9) : Calls Try.prog 97 #[.agg #[.string a.f0, .string a.f1], .pointer (some ⟨g, 0, none⟩)] w fun e w' => e = .returned (.bool (a.f0.toList == id.toList)) ∧ Below w.heap.size w w' := by
 go_enter Try.func97, Try.ntmps97
 go_wp2_with (refine aE rfl 85 (.tmp 0) rfl [.string a.f0, .string a.f1] rfl ?_; intro g1 W1 J aa I; have qo := aa.cell 0 _ rfl; have jX := (h.below I).cell 0 _ rfl; have HB := ak I; clear J aa I)
 go_ret
 exact ⟨rfl, HB.out⟩
set_option maxHeartbeats 8000000 in
set_option maxRecDepth 100000 in
theorem C7 (a : At) (id : ByteArray) (g : Nat) (w : World) (h : aH w g [.string id] 9) : Calls Try.prog 98 #[.agg #[.string a.f0, .string a.f1], .pointer (some ⟨g, 0, none⟩)] w fun e w' => e = .returned (.bool (a.f1.toList == id.toList)) ∧ Below w.heap.size w w' := by
 go_enter Try.func98, Try.ntmps98
 go_wp2_with (refine aE rfl 85 (.tmp 0) rfl [.string a.f0, .string a.f1] rfl ?_; intro g1 W1 J aa I; have qo := aa.cell 1 _ rfl; have jX := (h.below I).cell 0 _ rfl; have HB := ak I; clear J aa I)
 go_ret
 exact ⟨rfl, HB.out⟩
set_option maxHeartbeats 8000000 in
set_option maxRecDepth 100000 in
theorem LX (a : At) (w : World) : Calls Try.prog 99 #[.agg #[.string a.f0, .string a.f1]] w fun e w' => e = .returned (.bool true) ∧ Below w.heap.size w w' := by
 go_enter Try.func99, Try.ntmps99
 go_wp2_with (refine aE rfl 85 (.tmp 0) rfl [.string a.f0, .string a.f1] rfl ?_; intro g1 W1 J aa I; have HB := ak I; clear J aa I)
 go_ret
 exact ⟨rfl, HB.out⟩
set_option maxHeartbeats 8000000 in
set_option maxRecDepth 100000 in
theorem Cr (b : Bk) (hk : BkOk b) (hp : RightP b) (v : Value) (w : World) (h : fS w v b) (id : ByteArray) (g : Nat) (hid : aH w g [.string id] 9) :
  Calls Try.prog 96 #[v, .func (.func 97) #[] #[.pointer (some ⟨g, 0, none⟩)]] w fun e w' => ∃ vo, e = .returned vo ∧ Kd.R (Kd.int .u32) 46 w' w.heap.size (fun _ => True) vo (dk b (fun a => a.f0.toList == id.toList) 64) ∧ Below w.heap.size w w' := by
 obtain ⟨A, c, A', c', rfl, hr⟩ := h
 have HL := ak hr.l64
 have HR := ak hr
 have HK := ak hk
 have HP := ak hp
 have ae := ak (Below.refl w.heap.size w)
 have HLN := ak (show (Try.prog.info? 47).map (·.size) = some (b.slots.map (Value.int .u8)).length by rw [List.length_map, hr.l64]; kernel_rfl)
 have zk : 0 ≤ b.addr := hk.a0
 have kM : b.addr + 64 ≤ 4294967296 := by
  have h1 := hp.first
  have h2 := hk.a1
  unfold bV at h1
  omega
 have HID := ak hid
 clear hid
 clear hr hk hp
 go_enter Try.func96, Try.ntmps96
 go_wp2_with (first
  | (refine aE rfl 57 (.tmp 0) rfl _ rfl ?_; intro gX W1 J aa I; have bQ := ge ae J; have ai := ak (ae.out.trans (I.mono ae.out.size)); have ah := ak (aa); clear J aa I ae)
  | (refine eQ rfl 47 (.tmp 8) rfl gX 2 rfl 57 _ (b.slots.map (Value.int .u8)) (.array 64 5) ah.out (kv _ _ _ _ _ HL.out) Try.underlying47 rfl HLN.out ?_))
 go_loopw [5, 6, 7, 10] (fun q _ _ i W => ∃ k : Nat, k ≤ 64 ∧ i = .int .i64 k ∧ Aside0 (aH W gX (aZ b.addr b.aff b.slots (.slice A b.free.length c) (.slice A' b.attrs.length c')) 57) ∧ Aside0 (Kd.R (Kd.int .u32) 46 W w.heap.size (fun _ => True) q (dk b (fun a => a.f0.toList == id.toList) k)) ∧ Aside0 (Below w.heap.size w W)) (fun _ _ _ i _ => 64 - (intOf i).toNat)
 case atStart => exact ⟨0, by omega, rfl, ah, ⟨Kd.R_nil _ _ _ _ _⟩, ai⟩
 case round =>
  clear ai ah
  obtain ⟨k, hk, rfl, aJ, bF, ae⟩ := hrel
  obtain ⟨W, rfl⟩ : ∃ W : World, W = wr := ⟨_, rfl⟩
  have hul := fD b (fun a => a.f0.toList == id.toList) k
  by_cases ni : k < 64
  ·have hkb : decide ((k : Int) < 64) = true := by simp; omega
   have hkl : k < b.slots.length := by have := HL.out; omega
   have hus := mG b (fun a => a.f0.toList == id.toList) k
   obtain ⟨oo, hoo⟩ : ∃ oo, oo = dk b (fun a => a.f0.toList == id.toList) k := ⟨_, rfl⟩
   rw [← hoo] at bF hus hul
   have HUL := ak (show oo.length ≤ 100 by omega)
   have hms := HK.out.s8 _ (List.getElem_mem hkl)
   have hml := HP.out.sa _ (List.getElem_mem hkl)
   have hna := HP.out.na
   have hge : b.slots.getD k 0 = b.slots[k] := by simp [List.getD, hkl]
   have hix := fun w => nh b.slots HL.out k ni w
   rw [hge] at hix hus
   by_cases lG : b.slots[k] = 0
   ·rw [lG] at hix hus
    have HUS := ak (show dk b (fun a => a.f0.toList == id.toList) (k + 1) = oo by rw [hus]; simp)
    clear hus hms hml hge lG hoo hul
    go_wp2_with fail
    go_roundw
    case rel => exact ⟨k + 1, by omega, by go_num, aJ, ⟨by rw [HUS.out]; exact bF.out⟩, ae⟩
    case measure => simp [intOf]; omega
   ·obtain ⟨m, hm⟩ : ∃ m : Nat, b.slots[k] = (m : Int) + 1 := ⟨(b.slots[k]).toNat - 1, by omega⟩
    have hheld : eR b k = gF b.attrs m := by
     unfold eR
     rw [hge, hm]
     congr 1
     omega
    rw [hm] at hix hus hml hms
    try rw [hheld] at hus
    have ht : (((m : Int) + 1) != 0) = true := by simp; omega
    have hma : m < b.attrs.length := by omega
    obtain ⟨ad, eA, fF, jf⟩ := kH (HR.out.below ae.out).ar m (by omega) (by omega)
    cases eA
    rw [Int.toNat_natCast] at fF jf
    have p1 : ((m : Int) < (b.attrs.length : Int)) = True := eq_true (by omega)
    obtain ⟨a, ha⟩ : ∃ a : At, gF b.attrs m = a := ⟨_, rfl⟩
    have ha' : cH b.attrs (m : Int) = a := ha
    rw [ha'] at fF jf
    try rw [ha] at hus
    rw [ht, Bool.true_and] at hus
    have nz := aJ.out.cell 67 _ (fi _ _ _ _ _ HL.out)
    obtain ⟨Ao, co, rfl⟩ := Kd.R_slice bF.out
    cases hpa : (a.f0.toList == id.toList) with
    | true =>
     have HPA := ak hpa
     obtain ⟨o1, fw⟩ : ∃ o1, o1 = oo ++ [b.addr + (k : Int)] := ⟨_, rfl⟩
     have kA := ak fw
     have HUS := ak (show dk b (fun a => a.f0.toList == id.toList) (k + 1) = o1 by rw [hus, fw]; simp [hpa])
     clear hus hms hml hge lG hoo hul hm hheld ha ha' fw hpa
     go_wp2_with (first
      | (go_at_call 97; refine (zo a id g _ (HID.out.below ae.out)).mono ?_; rintro e W1 ⟨rfl, I⟩; rw [HPA.out]; have ah := mv I aJ; have cr := mv I bF; have ai := ak (ae.out.trans (I.mono ae.out.size)); have ke := ah.out.cell 0 _ rfl; clear I aJ bF ae nz)
      | ((with_reducible refine cz (b := .append) (xs := #[.tmp 26, .tmp 32]) rfl ?_); at_builtin; refine Kd.R_append (Kd.int .u32) (w0 := w) w.heap.size rfl (.tmp 26) (.tmp 32) 77 46 (.int .u32 0) 4 rfl Try.underlying77 iL rfl (by decide) (by omega) _ oo (b.addr + (k : Int)) [.int .u32 (b.addr + (k : Int))] (fun _ => True) (fun _ => False) rfl rfl rfl (fun _ hk => hk.elim) (fun _ _ => trivial) cr.out ai.out ai.out.size (by have := HUL.out; omega) ?_; intro v_ W2 aW I J fm; rw [← kA.out] at aW; have au := ak (ah.out.grown J (ah.out.ne_row cr.out (by decide))); have cC := ak (aW); have av := ak (I); obtain ⟨AO, cO, rfl⟩ := Kd.R_slice aW; clear aW I J fm ah cr ai ke))
     go_roundw
     case rel => exact ⟨k + 1, by omega, by go_num, au, ⟨by rw [HUS.out]; exact cC.out⟩, av⟩
     case measure => simp [intOf]; omega
    | false =>
     have HPA := ak hpa
     have HUS := ak (show dk b (fun a => a.f0.toList == id.toList) (k + 1) = oo by rw [hus]; simp [hpa])
     clear hus hms hml hge lG hoo hul hm hheld ha ha' hpa
     go_wp2_with (first
      | (go_at_call 97; refine (zo a id g _ (HID.out.below ae.out)).mono ?_; rintro e W1 ⟨rfl, I⟩; rw [HPA.out]; have ah := mv I aJ; have cr := mv I bF; have ai := ak (ae.out.trans (I.mono ae.out.size)); clear I aJ bF ae nz))
     go_roundw
     case rel => exact ⟨k + 1, by omega, by go_num, ah, ⟨by rw [HUS.out]; exact cr.out⟩, ai⟩
     case measure => simp [intOf]; omega
  ·obtain rfl : k = 64 := by omega
   rw [show ((64 : Nat) : Int) = (64 : Int) from rfl]
   have hkb : decide ((64 : Int) < 64) = false := by decide
   go_wp2
   go_ret
   exact ⟨_, rfl, bF.out, ae.out⟩
set_option maxHeartbeats 8000000 in
set_option maxRecDepth 100000 in
theorem Es (b : Bk) (hk : BkOk b) (hp : RightP b) (v : Value) (w : World) (h : fS w v b) (id : ByteArray) (g : Nat) (hid : aH w g [.string id] 9) :
  Calls Try.prog 96 #[v, .func (.func 98) #[] #[.pointer (some ⟨g, 0, none⟩)]] w fun e w' => ∃ vo, e = .returned vo ∧ Kd.R (Kd.int .u32) 46 w' w.heap.size (fun _ => True) vo (dk b (fun a => a.f1.toList == id.toList) 64) ∧ Below w.heap.size w w' := by
 obtain ⟨A, c, A', c', rfl, hr⟩ := h
 have HL := ak hr.l64
 have HR := ak hr
 have HK := ak hk
 have HP := ak hp
 have ae := ak (Below.refl w.heap.size w)
 have HLN := ak (show (Try.prog.info? 47).map (·.size) = some (b.slots.map (Value.int .u8)).length by rw [List.length_map, hr.l64]; kernel_rfl)
 have zk : 0 ≤ b.addr := hk.a0
 have kM : b.addr + 64 ≤ 4294967296 := by
  have h1 := hp.first
  have h2 := hk.a1
  unfold bV at h1
  omega
 have HID := ak hid
 clear hid
 clear hr hk hp
 go_enter Try.func96, Try.ntmps96
 go_wp2_with (first
  | (refine aE rfl 57 (.tmp 0) rfl _ rfl ?_; intro gX W1 J aa I; have bQ := ge ae J; have ai := ak (ae.out.trans (I.mono ae.out.size)); have ah := ak (aa); clear J aa I ae)
  | (refine eQ rfl 47 (.tmp 8) rfl gX 2 rfl 57 _ (b.slots.map (Value.int .u8)) (.array 64 5) ah.out (kv _ _ _ _ _ HL.out) Try.underlying47 rfl HLN.out ?_))
 go_loopw [5, 6, 7, 10] (fun q _ _ i W => ∃ k : Nat, k ≤ 64 ∧ i = .int .i64 k ∧ Aside0 (aH W gX (aZ b.addr b.aff b.slots (.slice A b.free.length c) (.slice A' b.attrs.length c')) 57) ∧ Aside0 (Kd.R (Kd.int .u32) 46 W w.heap.size (fun _ => True) q (dk b (fun a => a.f1.toList == id.toList) k)) ∧ Aside0 (Below w.heap.size w W)) (fun _ _ _ i _ => 64 - (intOf i).toNat)
 case atStart => exact ⟨0, by omega, rfl, ah, ⟨Kd.R_nil _ _ _ _ _⟩, ai⟩
 case round =>
  clear ai ah
  obtain ⟨k, hk, rfl, aJ, bF, ae⟩ := hrel
  obtain ⟨W, rfl⟩ : ∃ W : World, W = wr := ⟨_, rfl⟩
  have hul := fD b (fun a => a.f1.toList == id.toList) k
  by_cases ni : k < 64
  ·have hkb : decide ((k : Int) < 64) = true := by simp; omega
   have hkl : k < b.slots.length := by have := HL.out; omega
   have hus := mG b (fun a => a.f1.toList == id.toList) k
   obtain ⟨oo, hoo⟩ : ∃ oo, oo = dk b (fun a => a.f1.toList == id.toList) k := ⟨_, rfl⟩
   rw [← hoo] at bF hus hul
   have HUL := ak (show oo.length ≤ 100 by omega)
   have hms := HK.out.s8 _ (List.getElem_mem hkl)
   have hml := HP.out.sa _ (List.getElem_mem hkl)
   have hna := HP.out.na
   have hge : b.slots.getD k 0 = b.slots[k] := by simp [List.getD, hkl]
   have hix := fun w => nh b.slots HL.out k ni w
   rw [hge] at hix hus
   by_cases lG : b.slots[k] = 0
   ·rw [lG] at hix hus
    have HUS := ak (show dk b (fun a => a.f1.toList == id.toList) (k + 1) = oo by rw [hus]; simp)
    clear hus hms hml hge lG hoo hul
    go_wp2_with fail
    go_roundw
    case rel => exact ⟨k + 1, by omega, by go_num, aJ, ⟨by rw [HUS.out]; exact bF.out⟩, ae⟩
    case measure => simp [intOf]; omega
   ·obtain ⟨m, hm⟩ : ∃ m : Nat, b.slots[k] = (m : Int) + 1 := ⟨(b.slots[k]).toNat - 1, by omega⟩
    have hheld : eR b k = gF b.attrs m := by
     unfold eR
     rw [hge, hm]
     congr 1
     omega
    rw [hm] at hix hus hml hms
    try rw [hheld] at hus
    have ht : (((m : Int) + 1) != 0) = true := by simp; omega
    have hma : m < b.attrs.length := by omega
    obtain ⟨ad, eA, fF, jf⟩ := kH (HR.out.below ae.out).ar m (by omega) (by omega)
    cases eA
    rw [Int.toNat_natCast] at fF jf
    have p1 : ((m : Int) < (b.attrs.length : Int)) = True := eq_true (by omega)
    obtain ⟨a, ha⟩ : ∃ a : At, gF b.attrs m = a := ⟨_, rfl⟩
    have ha' : cH b.attrs (m : Int) = a := ha
    rw [ha'] at fF jf
    try rw [ha] at hus
    rw [ht, Bool.true_and] at hus
    have nz := aJ.out.cell 67 _ (fi _ _ _ _ _ HL.out)
    obtain ⟨Ao, co, rfl⟩ := Kd.R_slice bF.out
    cases hpa : (a.f1.toList == id.toList) with
    | true =>
     have HPA := ak hpa
     obtain ⟨o1, fw⟩ : ∃ o1, o1 = oo ++ [b.addr + (k : Int)] := ⟨_, rfl⟩
     have kA := ak fw
     have HUS := ak (show dk b (fun a => a.f1.toList == id.toList) (k + 1) = o1 by rw [hus, fw]; simp [hpa])
     clear hus hms hml hge lG hoo hul hm hheld ha ha' fw hpa
     go_wp2_with (first
      | (go_at_call 98; refine (C7 a id g _ (HID.out.below ae.out)).mono ?_; rintro e W1 ⟨rfl, I⟩; rw [HPA.out]; have ah := mv I aJ; have cr := mv I bF; have ai := ak (ae.out.trans (I.mono ae.out.size)); have ke := ah.out.cell 0 _ rfl; clear I aJ bF ae nz)
      | ((with_reducible refine cz (b := .append) (xs := #[.tmp 26, .tmp 32]) rfl ?_); at_builtin; refine Kd.R_append (Kd.int .u32) (w0 := w) w.heap.size rfl (.tmp 26) (.tmp 32) 77 46 (.int .u32 0) 4 rfl Try.underlying77 iL rfl (by decide) (by omega) _ oo (b.addr + (k : Int)) [.int .u32 (b.addr + (k : Int))] (fun _ => True) (fun _ => False) rfl rfl rfl (fun _ hk => hk.elim) (fun _ _ => trivial) cr.out ai.out ai.out.size (by have := HUL.out; omega) ?_; intro v_ W2 aW I J fm; rw [← kA.out] at aW; have au := ak (ah.out.grown J (ah.out.ne_row cr.out (by decide))); have cC := ak (aW); have av := ak (I); obtain ⟨AO, cO, rfl⟩ := Kd.R_slice aW; clear aW I J fm ah cr ai ke))
     go_roundw
     case rel => exact ⟨k + 1, by omega, by go_num, au, ⟨by rw [HUS.out]; exact cC.out⟩, av⟩
     case measure => simp [intOf]; omega
    | false =>
     have HPA := ak hpa
     have HUS := ak (show dk b (fun a => a.f1.toList == id.toList) (k + 1) = oo by rw [hus]; simp [hpa])
     clear hus hms hml hge lG hoo hul hm hheld ha ha' hpa
     go_wp2_with (first
      | (go_at_call 98; refine (C7 a id g _ (HID.out.below ae.out)).mono ?_; rintro e W1 ⟨rfl, I⟩; rw [HPA.out]; have ah := mv I aJ; have cr := mv I bF; have ai := ak (ae.out.trans (I.mono ae.out.size)); clear I aJ bF ae nz))
     go_roundw
     case rel => exact ⟨k + 1, by omega, by go_num, ah, ⟨by rw [HUS.out]; exact cr.out⟩, ai⟩
     case measure => simp [intOf]; omega
  ·obtain rfl : k = 64 := by omega
   rw [show ((64 : Nat) : Int) = (64 : Int) from rfl]
   have hkb : decide ((64 : Int) < 64) = false := by decide
   go_wp2
   go_ret
   exact ⟨_, rfl, bF.out, ae.out⟩
set_option maxHeartbeats 8000000 in
set_option maxRecDepth 100000 in
theorem F1 (b : Bk) (hk : BkOk b) (hp : RightP b) (v : Value) (w : World) (h : fS w v b) :
  Calls Try.prog 96 #[v, .func (.func 99) #[] #[]] w fun e w' => ∃ vo, e = .returned vo ∧ Kd.R (Kd.int .u32) 46 w' w.heap.size (fun _ => True) vo (dk b (fun _ => true) 64) ∧ Below w.heap.size w w' := by
 obtain ⟨A, c, A', c', rfl, hr⟩ := h
 have HL := ak hr.l64
 have HR := ak hr
 have HK := ak hk
 have HP := ak hp
 have ae := ak (Below.refl w.heap.size w)
 have HLN := ak (show (Try.prog.info? 47).map (·.size) = some (b.slots.map (Value.int .u8)).length by rw [List.length_map, hr.l64]; kernel_rfl)
 have zk : 0 ≤ b.addr := hk.a0
 have kM : b.addr + 64 ≤ 4294967296 := by
  have h1 := hp.first
  have h2 := hk.a1
  unfold bV at h1
  omega
 clear hr hk hp
 go_enter Try.func96, Try.ntmps96
 go_wp2_with (first
  | (refine aE rfl 57 (.tmp 0) rfl _ rfl ?_; intro gX W1 J aa I; have bQ := ge ae J; have ai := ak (ae.out.trans (I.mono ae.out.size)); have ah := ak (aa); clear J aa I ae)
  | (refine eQ rfl 47 (.tmp 8) rfl gX 2 rfl 57 _ (b.slots.map (Value.int .u8)) (.array 64 5) ah.out (kv _ _ _ _ _ HL.out) Try.underlying47 rfl HLN.out ?_))
 go_loopw [5, 6, 7, 10] (fun q _ _ i W => ∃ k : Nat, k ≤ 64 ∧ i = .int .i64 k ∧ Aside0 (aH W gX (aZ b.addr b.aff b.slots (.slice A b.free.length c) (.slice A' b.attrs.length c')) 57) ∧ Aside0 (Kd.R (Kd.int .u32) 46 W w.heap.size (fun _ => True) q (dk b (fun _ => true) k)) ∧ Aside0 (Below w.heap.size w W)) (fun _ _ _ i _ => 64 - (intOf i).toNat)
 case atStart => exact ⟨0, by omega, rfl, ah, ⟨Kd.R_nil _ _ _ _ _⟩, ai⟩
 case round =>
  clear ai ah
  obtain ⟨k, hk, rfl, aJ, bF, ae⟩ := hrel
  obtain ⟨W, rfl⟩ : ∃ W : World, W = wr := ⟨_, rfl⟩
  have hul := fD b (fun _ => true) k
  by_cases ni : k < 64
  ·have hkb : decide ((k : Int) < 64) = true := by simp; omega
   have hkl : k < b.slots.length := by have := HL.out; omega
   have hus := mG b (fun _ => true) k
   obtain ⟨oo, hoo⟩ : ∃ oo, oo = dk b (fun _ => true) k := ⟨_, rfl⟩
   rw [← hoo] at bF hus hul
   have HUL := ak (show oo.length ≤ 100 by omega)
   have hms := HK.out.s8 _ (List.getElem_mem hkl)
   have hml := HP.out.sa _ (List.getElem_mem hkl)
   have hna := HP.out.na
   have hge : b.slots.getD k 0 = b.slots[k] := by simp [List.getD, hkl]
   have hix := fun w => nh b.slots HL.out k ni w
   rw [hge] at hix hus
   by_cases lG : b.slots[k] = 0
   ·rw [lG] at hix hus
    have HUS := ak (show dk b (fun _ => true) (k + 1) = oo by rw [hus]; simp)
    clear hus hms hml hge lG hoo hul
    go_wp2_with fail
    go_roundw
    case rel => exact ⟨k + 1, by omega, by go_num, aJ, ⟨by rw [HUS.out]; exact bF.out⟩, ae⟩
    case measure => simp [intOf]; omega
   ·obtain ⟨m, hm⟩ : ∃ m : Nat, b.slots[k] = (m : Int) + 1 := ⟨(b.slots[k]).toNat - 1, by omega⟩
    have hheld : eR b k = gF b.attrs m := by
     unfold eR
     rw [hge, hm]
     congr 1
     omega
    rw [hm] at hix hus hml hms
    try rw [hheld] at hus
    have ht : (((m : Int) + 1) != 0) = true := by simp; omega
    have hma : m < b.attrs.length := by omega
    obtain ⟨ad, eA, fF, jf⟩ := kH (HR.out.below ae.out).ar m (by omega) (by omega)
    cases eA
    rw [Int.toNat_natCast] at fF jf
    have p1 : ((m : Int) < (b.attrs.length : Int)) = True := eq_true (by omega)
    obtain ⟨a, ha⟩ : ∃ a : At, gF b.attrs m = a := ⟨_, rfl⟩
    have ha' : cH b.attrs (m : Int) = a := ha
    rw [ha'] at fF jf
    try rw [ha] at hus
    rw [ht, Bool.true_and] at hus
    have nz := aJ.out.cell 67 _ (fi _ _ _ _ _ HL.out)
    obtain ⟨Ao, co, rfl⟩ := Kd.R_slice bF.out
    ·skip
     obtain ⟨o1, fw⟩ : ∃ o1, o1 = oo ++ [b.addr + (k : Int)] := ⟨_, rfl⟩
     have kA := ak fw
     have HUS := ak (show dk b (fun _ => true) (k + 1) = o1 by rw [hus, fw]; simp)
     clear hus hms hml hge lG hoo hul hm hheld ha ha' fw
     go_wp2_with (first
      | (go_at_call 99; refine (LX a _).mono ?_; rintro e W1 ⟨rfl, I⟩; have ah := mv I aJ; have cr := mv I bF; have ai := ak (ae.out.trans (I.mono ae.out.size)); have ke := ah.out.cell 0 _ rfl; clear I aJ bF ae nz)
      | ((with_reducible refine cz (b := .append) (xs := #[.tmp 26, .tmp 32]) rfl ?_); at_builtin; refine Kd.R_append (Kd.int .u32) (w0 := w) w.heap.size rfl (.tmp 26) (.tmp 32) 77 46 (.int .u32 0) 4 rfl Try.underlying77 iL rfl (by decide) (by omega) _ oo (b.addr + (k : Int)) [.int .u32 (b.addr + (k : Int))] (fun _ => True) (fun _ => False) rfl rfl rfl (fun _ hk => hk.elim) (fun _ _ => trivial) cr.out ai.out ai.out.size (by have := HUL.out; omega) ?_; intro v_ W2 aW I J fm; rw [← kA.out] at aW; have au := ak (ah.out.grown J (ah.out.ne_row cr.out (by decide))); have cC := ak (aW); have av := ak (I); obtain ⟨AO, cO, rfl⟩ := Kd.R_slice aW; clear aW I J fm ah cr ai ke))
     go_roundw
     case rel => exact ⟨k + 1, by omega, by go_num, au, ⟨by rw [HUS.out]; exact cC.out⟩, av⟩
     case measure => simp [intOf]; omega
  ·obtain rfl : k = 64 := by omega
   rw [show ((64 : Nat) : Int) = (64 : Int) from rfl]
   have hkb : decide ((64 : Int) < 64) = false := by decide
   go_wp2
   go_ret
   exact ⟨_, rfl, bF.out, ae.out⟩
end Go.Proofs.Ytemhalnhbgkbcaa.V
end

section
namespace Go.Proofs.Ytemhalnhbgkbcaa.V
def wh : List Int := List.replicate 65 0
theorem Jt (w : World) : (zeroValue 146).run Try.prog w = .ok (.agg (wh.map (Value.int .u8)).toArray) w := by kernel_rfl
theorem CX (l : List Int) (i : Nat) (h : i < l.length) : (l.map (Value.int .u8))[i]? = some (.int .u8 (l.getD i 0)) := by simp [List.getD, h]
set_option maxHeartbeats 16000000 in
set_option maxRecDepth 100000 in
theorem CL (b : Bk) (hs : nE b.slots) (hn : b.attrs.length ≤ 64) (hle : ∀ s ∈ b.slots, s ≤ (b.attrs.length : Int)) (v : Value) (w : World) (base : Nat) (lU : base ≤ w.heap.size) (h : ea w base v b) :
  Calls Try.prog 95 #[v] w fun e w' => ∃ v', e = .returned v' ∧ ea w' base v' (kB b) ∧ Below w.heap.size w w' := by
 obtain ⟨hl, vf, va, rfl, hrf, hra⟩ := h
 obtain ⟨A, c, rfl⟩ := Kd.R_slice hrf
 obtain ⟨A', c', rfl⟩ := Kd.R_slice hra
 have HC := ak (Kd.R_reads' hra).2.2
 have HRF := ak hrf
 have Tb := ak lU
 have HL := ak hl
 have HS := ak hs
 have HLE := ak hle
 have ae := ak (Below.refl w.heap.size w)
 have HLN := ak (show (Try.prog.info? 47).map (·.size) = some (b.slots.map (Value.int .u8)).length by rw [List.length_map, hl]; kernel_rfl)
 clear hrf hra lU hl hs hle
 go_enter Try.func95, Try.ntmps95
 go_wp2_with (first
  | (refine aE rfl 57 (.tmp 0) rfl _ rfl ?_; intro gX W1 J aa I; have bQ := ge ae J; have ai := ak (ae.out.trans (I.mono ae.out.size)); have ah := ak (aa); clear J aa I ae)
  | (refine aw (some 2) rfl rfl 57 rfl a9 bP ?_; intro gZ W2 J aa I; have bN := ge ai J; have aG := ne ah J; have av := mv I ai; have au := mv I ah; have bY := ak (aa); clear J aa I ai ah)
  | (refine aw (some 3) rfl rfl 146 rfl (wh.map (Value.int .u8)) Jt ?_; intro gT W3 J aa I; have j9 := ge av J; have gW := ne au J; have Pe := ne bY J; have aD := mv I av; have aA := mv I au; have bL := mv I bY; have dK := ak (aa); clear J aa I av au bY)
  | (refine eQ rfl 47 (.tmp 12) rfl gX 2 rfl 57 _ (b.slots.map (Value.int .u8)) (.array 64 5) aA.out (kv _ _ _ _ _ HL.out) Try.underlying47 rfl HLN.out ?_))
 go_loopw [5, 7, 14] (fun u _ i W => ∃ k : Nat, k ≤ 64 ∧ i = .int .i64 k ∧ u = .int .u64 ((fT (b.slots.take k) : Nat) : Int) ∧ Aside0 (aH W gX (aZ b.addr b.aff b.slots (.slice A b.free.length c) (.slice A' b.attrs.length c')) 57) ∧ Aside0 (aH W gZ a9 57) ∧ Aside0 (aH W gT (wh.map (Value.int .u8)) 146) ∧ Aside0 (Below w.heap.size w W)) (fun _ _ i _ => 64 - (intOf i).toNat)
 case atStart => exact ⟨0, by omega, rfl, rfl, aA, bL, dK, aD⟩
 case round =>
  clear aA bL dK aD
  obtain ⟨k, hk, rfl, rfl, aJ, br, lx, ae⟩ := hrel
  obtain ⟨W, rfl⟩ : ∃ W : World, W = wr := ⟨_, rfl⟩
  by_cases ni : k < 64
  ·have hkb : decide ((k : Int) < 64) = true := by simp; omega
   have hkl : k < b.slots.length := by have := HL.out; omega
   obtain ⟨m, hm⟩ : ∃ m : Nat, b.slots[k] = (m : Int) := ⟨(b.slots[k]).toNat, by have := (HS.out _ (List.getElem_mem hkl)).1; omega⟩
   have sS : m < 256 := by have := (HS.out _ (List.getElem_mem hkl)).2; omega
   have hix := fun w => nh b.slots HL.out k ni w
   rw [show b.slots.getD k 0 = (m : Int) by rw [← hm]; simp [List.getD, hkl]] at hix
   have HU := ak (Er b.slots k hkl m hm)
   clear hm
   go_wp2_with (go_at_call 21; refine (MH (fT (b.slots.take k)) (oT _) _ _).mono ?_; rintro e W1 ⟨rfl, I⟩; rw [HU.out]; have ah := mv I aJ; have bM := mv I br; have iv := mv I lx; have ai := ak (ae.out.trans (I.mono ae.out.size)); clear I aJ br lx ae)
   go_roundw
   case rel => exact ⟨k + 1, by omega, by go_num, rfl, ah, bM, iv, ai⟩
   case measure => simp [intOf]; omega
  ·obtain rfl : k = 64 := by omega
   rw [show ((64 : Nat) : Int) = (64 : Int) from rfl]
   have hkb : decide ((64 : Int) < 64) = false := by decide
   have Pp := ak (show b.slots.take 64 = b.slots from List.take_of_length_le (by have := HL.out; omega))
   rw [Pp.out]
   have nz := aJ.out.cell 67 _ (fi _ _ _ _ _ HL.out)
   obtain ⟨us, hus⟩ : ∃ us, us = fT b.slots := ⟨_, rfl⟩
   rw [← hus]
   have HUS := ak hus
   have HUL := ak (show us < 18446744073709551616 by rw [hus]; exact oT _)
   rw [show wh = g7 b.slots 0 from (Ad b.slots).symm] at lx
   clear hus
   go_wp2_with fail
   clear nz
   go_loopw [4, 8, 9, 26] (fun q _ _ i W => ∃ k : Nat, k ≤ b.attrs.length ∧ i = .int .i64 k ∧ Aside0 (aH W gX (aZ b.addr b.aff b.slots (.slice A b.free.length c) (.slice A' b.attrs.length c')) 57) ∧ Aside0 (aH W gZ a9 57) ∧ Aside0 (aH W gT ((g7 b.slots k).map (Value.int .u8)) 146) ∧ Aside0 (Kd.R kc 85 W w.heap.size (fun _ => True) q (iQ b k)) ∧ Aside0 (Below w.heap.size w W)) (fun _ _ _ i _ => b.attrs.length - (intOf i).toNat)
   case atStart => exact ⟨0, by omega, rfl, aJ, br, lx, ⟨Kd.R_nil _ _ _ _ _⟩, ae⟩
   case round =>
    clear aJ br lx ae
    obtain ⟨k, hk, rfl, aJ, br, lx, m6, ae⟩ := hrel
    obtain ⟨W, rfl⟩ : ∃ W : World, W = wr := ⟨_, rfl⟩
    by_cases hkn : k < b.attrs.length
    ·have hkb : decide ((k : Int) < (b.attrs.length : Int)) = true := by simp; omega
     obtain ⟨ad, eA, fF, jf⟩ := kH (Kd.C_below HC.out ae.out) k (by omega) (by omega)
     cases eA
     rw [Int.toNat_natCast] at fF jf
     have p1 : ((k : Int) < (b.attrs.length : Int)) = True := eq_true (by omega)
     obtain ⟨a, ha⟩ : ∃ a : At, gF b.attrs k = a := ⟨_, rfl⟩
     have ha' : cH b.attrs (k : Int) = a := ha
     rw [ha'] at fF jf
     have HAT := ak ha
     obtain ⟨kn, tf⟩ : ∃ kn, kn = iQ b k := ⟨_, rfl⟩
     have HKN := ak tf
     have HKL := ak (show kn.length ≤ k by rw [tf, lN]; exact vP _ _)
     rw [← tf] at m6
     obtain ⟨Ak, ck, rfl⟩ := Kd.R_slice m6.out
     have HHS := ak (show hasB us (k : Int) = dL b.slots k by rw [HUS.out]; exact Gz b.slots k (by omega))
     clear ha ha' tf
     cases hu : dL b.slots k with
     | false =>
      rw [hu] at HHS
      have du := ak (show kn = iQ b (k + 1) by rw [pv, hu, HKN.out]; simp)
      have HTU := ak (Ct b.slots k hu)
      clear hu
      go_wp2_with (first
       | (refine aw (some 9) rfl rfl 85 rfl [.string ⟨#[]⟩, .string ⟨#[]⟩] (fun _ => by kernel_rfl) ?_; intro gV W1 J aa I; have df := ge ae J; have fx := ne aJ J; have jZ := ne br J; have tn := ne lx J; have ah := mv I aJ; have bM := mv I br; have iv := mv I lx; have so := ak (Kd.R_mono (ok' := fun k_ => k_ ≠ gV) (Kd.R_below (Kd.R_bound m6.out) I) (fun k_ cD e_ => by have h_ := cD.2.2.1; omega)); have ai := ak (ae.out.trans (I.mono ae.out.size)); have gL := ak (aa); clear J aa I aJ br lx m6 ae)
       | (refine aN rfl 85 (.tmp 9) (.tmp 30) rfl gV [.string a.f0, .string a.f1] rfl rfl 85 _ gL.out 2 (by kernel_rfl) rfl rfl (g9 a) ?_; intro W2 aa J; have au := gx ah gL J; have bY := gx bM gL J; have sn := gx iv gL J; have wa := ak (Kd.R_mono (ok' := fun _ => True) (Kd.R_grown so.out J (fun k_ cD e_ => cD (Option.some.inj e_))) (fun _ _ => trivial)); have av := gb ai df J; have dc := ak (aa); clear aa J ah bM iv so ai gL)
       | (go_at_call 20; refine (Hn us HUL.out (k : Int) _).mono ?_; rintro e W3 ⟨rfl, I⟩; rw [HHS.out]; have aA := mv I au; have bL := mv I bY; have dK := mv I sn; have v7 := mv I wa; have aD := mv I av; have mB := mv I dc; clear I au bY sn wa av dc))
      go_roundw
      case rel => exact ⟨k + 1, by omega, by go_num, aA, bL, ⟨by rw [HTU.out]; exact dK.out⟩, ⟨by rw [← du.out]; exact v7.out⟩, aD⟩
      case measure => simp [intOf]; omega
     | true =>
      rw [hu] at HHS
      obtain ⟨k1, Hh⟩ : ∃ k1, k1 = kn ++ [a] := ⟨_, rfl⟩
      have du := ak (show k1 = iQ b (k + 1) by rw [Hh, pv, hu, if_pos rfl, HKN.out, HAT.out])
      have FN := ak Hh
      have HTU := ak (Ae b.slots k (by omega) hu)
      have HRK := ak (show (k1.length : Int) = ((ft b.slots (k + 1) : Nat) : Int) by rw [du.out, lN])
      have TV : k1.length ≤ 64 := by rw [Hh, List.length_append, List.length_singleton]; have := HKL.out; omega
      have pt : ((k : Int) + 1 < 65) = True := eq_true (by omega)
      clear hu Hh
      go_wp2_with (first
       | (refine aw (some 9) rfl rfl 85 rfl [.string ⟨#[]⟩, .string ⟨#[]⟩] (fun _ => by kernel_rfl) ?_; intro gV W1 J aa I; have df := ge ae J; have fx := ne aJ J; have jZ := ne br J; have tn := ne lx J; have ah := mv I aJ; have bM := mv I br; have iv := mv I lx; have so := ak (Kd.R_mono (ok' := fun k_ => k_ ≠ gV) (Kd.R_below (Kd.R_bound m6.out) I) (fun k_ cD e_ => by have h_ := cD.2.2.1; omega)); have ai := ak (ae.out.trans (I.mono ae.out.size)); have gL := ak (aa); clear J aa I aJ br lx m6 ae)
       | (refine aN rfl 85 (.tmp 9) (.tmp 30) rfl gV [.string a.f0, .string a.f1] rfl rfl 85 _ gL.out 2 (by kernel_rfl) rfl rfl (g9 a) ?_; intro W2 aa J; have au := gx ah gL J; have bY := gx bM gL J; have sn := gx iv gL J; have wa := ak (Kd.R_mono (ok' := fun _ => True) (Kd.R_grown so.out J (fun k_ cD e_ => cD (Option.some.inj e_))) (fun _ _ => trivial)); have av := gb ai df J; have dc := ak (aa); clear aa J ah bM iv so ai gL)
       | (go_at_call 20; refine (Hn us HUL.out (k : Int) _).mono ?_; rintro e W3 ⟨rfl, I⟩; rw [HHS.out]; have aA := mv I au; have bL := mv I bY; have dK := mv I sn; have v7 := mv I wa; have aD := mv I av; have mB := mv I dc; have mz := mB.out.cell 0 _ rfl; have lr := mB.out.cell 1 _ rfl; clear I au bY sn wa av dc)
       | ((with_reducible refine cz (b := .append) (xs := #[.tmp 34, .tmp 36]) rfl ?_); at_builtin; refine Kd.R_append kc (w0 := w) w.heap.size rfl (.tmp 34) (.tmp 36) 55 85 (.agg #[.string ⟨#[]⟩, .string ⟨#[]⟩]) 32 rfl Try.underlying55 yA rfl (by decide) (by omega) _ kn a [.string a.f0, .string a.f1] (fun _ => True) (fun _ => False) rfl rfl (yx _ _ _ _) (fun _ hk => hk.elim) (fun _ _ => trivial) v7.out aD.out aD.out.size (by have := HKL.out; omega) ?_; intro v_ W4 aW I J fm; rw [← FN.out] at aW; have aV := ak (aA.out.grown J (aA.out.ne_row v7.out (by decide))); have a8 := ak (bL.out.grown J (bL.out.ne_row v7.out (by decide))); have dP := ak (dK.out.grown J (dK.out.ne_row v7.out (by decide))); have Ml := ak (aW); have aY := ak (I); obtain ⟨AK, cK, rfl⟩ := Kd.R_slice aW; have DO := dP.out.cell (k + 1) _ (CX _ _ (by rw [sq]; omega)); have OX := dP.out.frozen (k + 1); clear aW I J fm aA bL dK v7 aD mz lr))
      generalize bR : W4.setCell ⟨gT, k + 1, none⟩ (.int .u8 (k1.length : Int)) = W5; have J : W4.grownBy W5 (some gT) := (by rw [← bR]; exact bO _ _ _ _); have bb := gx aV dP J; have bu := gx a8 dP J; have bx := ak (dP.out.set (k + 1) (.int .u8 (k1.length : Int))); have Pw := gr Ml dP J; have bf := gb aY j9 J; rw [bR] at bx; clear bR J aV a8 dP Ml aY DO OX
      have HTT := ak (show aH W5 gT ((g7 b.slots (k + 1)).map (Value.int .u8)) 146 by have h_ := bx.out; rw [HRK.out, ← List.map_set, HTU.out] at h_; exact h_)
      go_roundw
      case rel => exact ⟨k + 1, by omega, by go_num, bb, bu, HTT, ⟨by rw [← du.out]; exact Pw.out⟩, bf⟩
      case measure => simp [intOf]; omega
    ·obtain rfl : k = b.attrs.length := by omega
     have hkb : decide ((b.attrs.length : Int) < (b.attrs.length : Int)) = false := by simp
     obtain ⟨Ak, ck, rfl⟩ := Kd.R_slice m6.out
     obtain ⟨kn, tf⟩ : ∃ kn, kn = iQ b b.attrs.length := ⟨_, rfl⟩
     rw [← tf] at m6
     have HKN := ak tf
     rw [show (iQ b b.attrs.length).length = kn.length by rw [tf]]
     clear tf
     go_wp2_with (refine eQ rfl 47 (.tmp 45) rfl gX 2 rfl 57 _ (b.slots.map (Value.int .u8)) (.array 64 5) aJ.out (kv _ _ _ _ _ HL.out) Try.underlying47 rfl HLN.out ?_)
     go_loopw [10, 11, 47] (fun _ _ i W => ∃ k : Nat, k ≤ 64 ∧ i = .int .i64 k ∧ Aside0 (aH W gX (aZ b.addr b.aff (sf b.slots k) (.slice A b.free.length c) (.slice A' b.attrs.length c')) 57) ∧ Aside0 (aH W gZ a9 57) ∧ Aside0 (aH W gT ((g7 b.slots b.attrs.length).map (Value.int .u8)) 146) ∧ Aside0 (Kd.R kc 85 W w.heap.size (fun _ => True) (.slice Ak kn.length ck) kn) ∧ Aside0 (Below w.heap.size w W)) (fun _ _ i _ => 64 - (intOf i).toNat)
     case atStart => exact ⟨0, by omega, rfl, aJ, br, lx, m6, ae⟩
     case round =>
      clear aJ br lx m6 ae
      obtain ⟨k, hk, rfl, aJ, br, lx, m6, ae⟩ := hrel
      obtain ⟨W, rfl⟩ : ∃ W : World, W = wr := ⟨_, rfl⟩
      have HLM := ak (show (sf b.slots k).length = 64 by rw [CB]; exact HL.out)
      by_cases ni : k < 64
      ·have hkb : decide ((k : Int) < 64) = true := by simp; omega
       have hkl : k < b.slots.length := by have := HL.out; omega
       have hms := HS.out _ (List.getElem_mem hkl)
       have hml := HLE.out _ (List.getElem_mem hkl)
       obtain ⟨m, hm⟩ : ∃ m : Nat, b.slots[k] = (m : Int) := ⟨(b.slots[k]).toNat, by omega⟩
       have sS : m < 65 := by omega
       have hix := fun w => nh b.slots HL.out k ni w
       rw [show b.slots.getD k 0 = (m : Int) by rw [← hm]; simp [List.getD, hkl]] at hix
       have hrk := Cs b.slots b.attrs.length b.slots[k] (List.getElem_mem hkl) hms.1 hml (by omega)
       have hst := Gh b.slots k hkl
       rw [hm, Int.toNat_natCast] at hrk hst
       obtain ⟨r, hr⟩ : ∃ r, r = ft b.slots m := ⟨_, rfl⟩
       rw [← hr] at hrk hst
       have Um : r < 256 := by rw [hr]; have := vP b.slots m; omega
       have HST := ak hst
       have DO := lx.out.cell m _ (CX _ _ (by rw [sq]; omega))
       rw [hrk] at DO
       have Gm := aJ.out.slot HLM.out k ni
       have Gl := aJ.out.frozen (2 + k)
       have pm : ((m : Int) < 65) = True := eq_true (by omega)
       have pk : ((k : Int) < 64) = True := eq_true (by omega)
       clear hm hrk hst hr hms hml
       go_wp2_with fail
       generalize bR : W.setCell ⟨gX, 2 + k, none⟩ (.int .u8 (r : Int)) = W1; have J : W.grownBy W1 (some gX) := (by rw [← bR]; exact bO _ _ _ _); have ah := ak (aJ.out.set (2 + k) (.int .u8 (r : Int))); have bM := gm br aG J; have iv := gx lx aJ J; have so := gr m6 aJ J; have ai := gb ae bQ J; rw [bR] at ah; clear bR J aJ br lx m6 ae DO Gm Gl
       rw [qz _ _ _ _ _ HLM.out k ni, HST.out] at ah
       go_roundw
       case rel => exact ⟨k + 1, by omega, by go_num, ah, bM, iv, so, ai⟩
       case measure => simp [intOf]; omega
      ·obtain rfl : k = 64 := by omega
       rw [show ((64 : Nat) : Int) = (64 : Int) from rfl]
       have hkb : decide ((64 : Int) < 64) = false := by decide
       have hms : sf b.slots 64 = (kB b).slots := by
        have h_ := Gi b.slots
        rwa [HL.out] at h_
       rw [hms] at aJ HLM
       have HCB := ak (show kB b = ⟨b.addr, b.aff, (kB b).slots, b.free, kn⟩ by rw [HKN.out]; rfl)
       generalize (kB b).slots = sl at aJ HLM HCB
       have Gm := aJ.out.cell 67 _ (fi _ _ _ _ _ HLM.out)
       have Gl := aJ.out.frozen 67
       clear hms
       go_wp2_with (first
        | ((with_reducible refine ax (N := 60) rfl ?_); generalize bR : W.setCell ⟨gX, 67, none⟩ (.slice Ak kn.length ck) = W1; have J : W.grownBy W1 (some gX) := (by rw [← bR]; exact bO _ _ _ _); have ah := ak (aJ.out.set 67 (.slice Ak kn.length ck)); have bM := gm br aG J; have so := gr m6 aJ J; have ai := gb ae bQ J; rw [bR] at ah; clear bR J aJ br m6 ae Gm Gl; rw [ti _ _ _ _ _ HLM.out] at ah; refine az rfl 57 (.tmp 1) rfl gX rfl _ _ _ ah.out Try.underlying57 rfl 68 (by kernel_rfl) (ag _ _ _ _ _ HLM.out) ?_)
        | (refine aN rfl 57 (.tmp 2) (.tmp 60) rfl gZ (aZ b.addr b.aff sl (.slice A b.free.length c) (.slice Ak kn.length ck)) rfl rfl 57 _ bM.out 68 (by kernel_rfl) (ag _ _ _ _ _ HLM.out) rfl (b4 _ _ _ _ _ rfl rfl) ?_; intro W2 aa J; have au := gn ah aG J; have bY := ak (aa); have wa := gr so bM J; have av := gb ai bN J; clear aa J ah bM so ai))
       refine bodyPost_ret (results_cell_row rfl _ _ gZ 57 _ (0, 0) _ rfl bY.out Try.underlying57 rfl (by simp only [List.size_toArray]; exact cg _ (ag _ _ _ _ _ HLM.out))) rfl ⟨_, rfl, ?_, av.out⟩
       rw [HCB.out]
       exact ⟨HLM.out, _, _, rfl, Kd.R_below HRF.out av.out, Kd.R_lower wa.out Tb.out⟩
end Go.Proofs.Ytemhalnhbgkbcaa.V
end

