/- The law BlockPlays for every input: texts of ours, put together (part 14 of 17). No further condition. -/
import Derived.Test.YtemhalnhbgkbcaaCBlockPlaysx2
import Derived.Test.YtemhalnhbgkbcaaCBlockPlaysx6
import Derived.Test.YtemhalnhbgkbcaaCBlockPlaysx12
import Derived.Outline
set_option linter.unusedVariables false
set_option linter.unusedSimpArgs false
open Go.RowKit Go.Proofs.YtemhalnhbgkbcaaW.PrintWords Go.Proofs.YtemhalnhbgkbcaaW.PrintLast Go.Proofs.YtemhalnhbgkbcaaW.PrintMore Go.Proofs.Ytemhalnhbgkbcaa.Z
section
namespace Go.Proofs.Ytemhalnhbgkbcaa.V
set_option maxHeartbeats 16000000 in
set_option maxRecDepth 100000 in
theorem Pn (b : Bk) (hg : RG b) (kd : Int) (hkd : kd = 0 ∨ kd = 1) (n : Int) (hn : n < 9223372036854775808) (a : lN) (fE : a.f0.size ≤ 9223372036854775807) (gh : a.f1.size ≤ 9223372036854775807) (l : List Int) (hu : ∀ x ∈ l, 0 ≤ x ∧ x < 4294967296) (hlm : l.length ≤ 9223372036854775807) (Al : Option Addr) (cl : Nat) (hcl : l.length ≤ cl) (aff : ByteArray) (hza : aff.size ≤ 9223372036854775807) (hma : fj (cv a) = false) (v v2 : Value) (w : World) (base : Nat) (hbase : base ≤ w.heap.size) (hO : eP w base v b) (hR : fw w base v2 b) (hC : Kd.C (Kd.int .u32) w Al l.length l) :
  Calls Try.prog 47 #[v, v2, .agg #[.int .i64 kd, .int .i64 n, .string a.f0, .string a.f1, .slice Al l.length cl, .string aff]] w fun e w' => ∃ v1 v2 b', e = .returned (.tuple #[v1, v2, .bool true]) ∧ RG b' ∧ eP w' base v1 b' ∧ fw w' base v2 b' ∧ Below w.heap.size w w' := by
 obtain ⟨hl, vf, va, rfl, hf, ha⟩ := hO
 obtain ⟨vs, vp, vm, rfl, hs, hp, hm⟩ := hR
 obtain ⟨Af, cf, rfl⟩ := Kd.R_slice hf
 obtain ⟨Aa, ca, rfl⟩ := Kd.R_slice ha
 obtain ⟨As, cs, rfl⟩ := Kd.R_slice hs
 obtain ⟨Ap, cp, rfl⟩ := Kd.R_slice hp
 obtain ⟨M, hM⟩ : ∃ M, M = b.attrs.map vc := ⟨_, rfl⟩
 rw [← hM] at hm
 obtain ⟨Am, cm, rfl⟩ := Kd.R_slice hm
 have HL := ak hl
 have HM := ak hM
 have bU := ak hf
 have eT := ak ha
 have bl := ak hs
 have eR := ak hp
 have cb := ak hm
 have HG := ak hg
 have an := ak (Below.refl w.heap.size w)
 have HBASE := ak hbase
 have HLB := ak (dc (bk b.addr b.aff b.slots (.slice Af b.free.length cf) (.slice Aa b.attrs.length ca)) (ao _ _ _ _ _ HL.out))
 obtain ⟨lt, hlt⟩ : ∃ lt, lt = l.take 80 := ⟨_, rfl⟩
 have hut : ∀ x ∈ lt, 0 ≤ x ∧ x < 4294967296 := fun x hx => hu x (by rw [hlt] at hx; exact List.mem_of_mem_take hx)
 have hll : lt.length = min 80 l.length := by rw [hlt, List.length_take]
 have HCL := ak hcl
 have HLL := ak hll
 have HC := ak hC
 have HCT := ak (fun W (I : Below w.heap.size w W) => (show Kd.C (Kd.int .u32) W Al lt.length lt by
  rcases Nat.lt_or_ge 80 l.length with h | h
  ·have h_ := Kd.C_take (m := 80) (Kd.C_below hC I) (by omega)
   rw [← hlt] at h_
   exact h_
  ·have h_ := Kd.C_below hC I
   have e : lt = l := by rw [hlt, List.take_of_length_le h]
   rw [e]
   exact h_))
 have hbl := fun v w h => rA b hg.ok n hn (cv a) v w h
 have hok : mX b n (cv a) = false := by unfold mX; rw [hma]; simp
 rw [hok] at hbl
 simp only [Bool.false_eq_true, if_false, if_true] at hbl
 have HMY := ak (fun w => sw a fE gh w)
 rw [hma] at HMY
 obtain ⟨nb, hnb⟩ : ∃ nb, nb = kC := ⟨_, rfl⟩
 have hnl : kC.slots.length = 64 := rfl
 rw [← hnb] at hbl hnl
 have HNB := ak hnb
 have HNL := ak hnl
 have HLN := fun A8 c8 A9 c9 => dc (bk nb.addr nb.aff nb.slots (.slice A8 nb.free.length c8) (.slice A9 nb.attrs.length c9)) (ao _ _ _ _ _ HNL.out)
 have HZR := ak (fun v w h => oH v w (by rw [← HNB.out]; exact h))
 obtain ⟨oo, hoo⟩ : ∃ oo : List Int, oo = [] := ⟨_, rfl⟩
 rw [← hoo] at hbl
 have o0 : decide ((oo.length : Int) = 0) = true := by rw [hoo]; rfl
 have o1 : ((oo.length : Int) == 0) = true := by rw [hoo]; rfl
 have o2 : ((oo.length : Int) = 0) = True := by rw [hoo]; simp
 have o3 : (oo.length = 0) = True := by rw [hoo]; simp
 have o4 : (oo = []) = True := eq_true hoo
 have HBL := ak hbl
 clear hbl hnb hnl hma hok hoo
 have HKD := ak hkd
 clear hkd
 clear hl hM hf ha hs hp hm hbase hC hu hut hll hcl hlt hg
 go_enter Try.func47, Try.ntmps47
 go_upto_if 37 with (first
  | (refine aV rfl 57 (.tmp 0) rfl _ rfl ?_; intro gX W1 J aa I; have cw := ge an J; have aA := ak (an.out.trans (I.mono an.out.size)); have bJ := mv I bU; have ea := mv I eT; have bC := mv I bl; have ee := mv I eR; have b7 := mv I cb; have au := ak (aa); clear J aa I an bU eT bl eR cb)
  | (refine aV rfl 62 (.tmp 1) rfl _ rfl ?_; intro gY W2 J aa I; have jT := ge aA J; have gC := ne au J; have aK := mv I aA; have ch := mv I bJ; have er := mv I ea; have b4 := mv I bC; have ej := mv I ee; have dm := mv I b7; have aI := mv I au; have dk := ak (aa); clear J aa I aA bJ ea bC ee b7 au)
  | (refine aV rfl 79 (.tmp 2) rfl _ rfl ?_; intro gT W3 J aa I; have ld := ge aK J; have iL := ne aI J; have jf := ne dk J; have aT := mv I aK; have cW := mv I ch; have eG := mv I er; have cH := mv I b4; have eN := mv I ej; have dT := mv I dm; have aQ := mv I aI; have dj := mv I dk; have ey := ak (aa); clear J aa I aK ch er b4 ej dm aI dk)
  | (refine aH (some 6) rfl rfl 57 rfl bu b6 ?_; intro gZ W4 J aa I; have ct := ge aT J; have aU := ne aQ J; have gS := ne dj J; have ky := ne ey J; have bq := mv I aT; have cU := mv I cW; have eo := mv I eG; have dC := mv I cH; have fg := mv I eN; have dZ := mv I dT; have bg := mv I aQ; have di := mv I dj; have eF := mv I ey; have bB := ak (aa); clear J aa I aT cW eG cH eN dT aQ dj ey)
  | (refine aH (some 7) rfl rfl 62 rfl dW (fun _ => by kernel_rfl) ?_; intro gU W5 J aa I; have fR := ge bq J; have ig := ne bg J; have dO := ne di J; have jI := ne eF J; have iA := ne bB J; have bE := mv I bq; have cQ := mv I cU; have dJ := mv I eo; have dG := mv I dC; have eV := mv I fg; have dw := mv I dZ; have bz := mv I bg; have dY := mv I di; have bQ := mv I eF; have bY := mv I bB; have ff := ak (aa); have kt := bQ.out.cell 0 _ rfl; have iK := bQ.out.cell 1 _ rfl; have ks := bQ.out.cell 2 _ rfl; have kr := bQ.out.cell 3 _ rfl; have kp := bQ.out.cell 4 _ rfl; have ix := bQ.out.cell 5 _ rfl; clear J aa I bq cU eo dC fg dZ bg di eF bB))
 go_cut [9] from 38 to 39 (fun s9 wx => s9 = .slice Al lt.length cl ∧ W5 = wx)
 case first =>
  rcases Nat.lt_or_ge 80 l.length with mA | mA
  ·have mz : decide ((80 : Int) < (l.length : Int)) = true := by simp; omega
   have wI : (((0 : Int) ≤ 80 ∧ (80 : Int) ≤ (cl : Int)) = True) := eq_true ⟨by omega, by have := HCL.out; omega⟩
   have wH : (((80 : Int) ≤ (cl : Int)) = True) := eq_true (by have := HCL.out; omega)
   go_wp2_with fail
   go_meet
   exact ⟨by rw [HLL.out, Nat.min_eq_left (by omega)], rfl⟩
  ·have mz : decide ((80 : Int) < (l.length : Int)) = false := by simp; omega
   go_wp2_with fail
   go_meet
   exact ⟨by rw [HLL.out, Nat.min_eq_right (by omega)], rfl⟩
 case rest =>
 obtain ⟨ic, ib⟩ := hcut
 subst ic
 subst ib
 go_upto_if 42 with fail
 go_cut [42] from 43 to 44 (fun vR wx => vR = .bool true ∧ W5 = wx)
 case first =>
  rcases HKD.out with dS | dS
  ·skip
   have Ck : (kd = 0) = True := eq_true (by omega)
   have II : decide (kd = 0) = true := by simp; omega
   have Iw : (kd == 0) = true := by simp; omega
   clear dS
   go_wp2_with fail
   go_meet
   exact ⟨by first | rfl | simp [Ck], rfl⟩
  ·skip
   have Ck : (kd = 0) = False := eq_false (by omega)
   have II : decide (kd = 0) = false := by simp; omega
   have Iw : (kd == 0) = false := by simp; omega
   have xh : (kd = 1) = True := eq_true (by omega)
   have TE : decide (kd = 1) = true := by simp; omega
   have TB : (kd == 1) = true := by simp; omega
   clear dS
   go_wp2_with fail
   go_meet
   exact ⟨by first | rfl | simp [xh], rfl⟩
 case rest =>
 obtain ⟨ic, ib⟩ := hcut
 subst ic
 subst ib
 go_wp2_with fail
 have aq : Below W5.heap.size W5 W5.drew := bL (Below.refl _ _)
 have bZ := mv aq bE; have dD := mv aq cQ; have ef := mv aq dJ; have dN := mv aq dG; have eU := mv aq eV; have ez := mv aq dw; have bH := mv aq bz; have du := mv aq dY; have fJ := mv aq bQ; have cn := mv aq bY; have dI := mv aq ff
 clear aq bE cQ dJ dG eV dw bz dY bQ bY ff kt iK ks kr kp ix
 have hB := bZ
 have hF := dD
 have hG := ef
 have hS := dN
 have hP := eU
 have hM := ez
 have hX := bH
 have hY := du
 have hT := fJ
 have hZ := cn
 have hU := dI
 clear bZ dD ef dN eU ez bH du fJ cn dI
 refine dR (n := 15) (S := fun w' => aX w' gX (bk b.addr b.aff b.slots (.slice Af b.free.length cf) (.slice Aa b.attrs.length ca)) 57 ∧ aX w' gT [.int .i64 kd, .int .i64 n, .string a.f0, .string a.f1, .slice Al l.length cl, .string aff] 79) (ds := []) #[false, false, false, false, false, false, false, false, false, false, false, false, false, false, false] (by kernel_rfl) rfl rfl ⟨hX.out, hT.out⟩ (fun hHeld => ?_); refine b5 qY.tab7 qY.bits7 (fun ag bM => ?_)
 refine tk 0 ag.out bM.out hHeld ?_ (hv := by exact fun _ bj => aY 57 (.tmp 3) rfl gX rfl _ _ _ bj.1 Try.underlying57 rfl HLB.out)
 refine pu 1 ag.out ?_
 refine tk 2 ag.out bM.out hHeld ?_ (hv := by intro w' bj; have Gc := bj.2.cell 1 _ rfl; go_simp; with_reducible rfl)
 refine pu 3 ag.out ?_
 refine tk 4 ag.out bM.out hHeld ?_ (hv := by exact fun _ bj => pg 76 (.tmp 49) rfl gT 2 rfl _ _ [.string a.f0, .string a.f1] _ bj.2 xv Try.underlying76 rfl (by kernel_rfl))
 refine ru (σ := Nat × Value × Value) 3 #[true, true, true, true, true, true, true, true, true, true, true, true, false, false, false] (fun s => [(51, fv (cv a)), (52, .tuple #[s.2.1, s.2.2, .int .i64 1]), (45, .tuple #[s.2.1, s.2.2, .int .i64 1]), (53, s.2.1), (54, s.2.2), (55, .int .i64 1), (10, .pointer (some ⟨s.1, 0, none⟩))]) (fun s w' => Aside0 (Below w.heap.size w w') ∧ Aside0 (Kd.R (Kd.int .u8) 5 w' base (fun _ => True) (.slice Af b.free.length cf) b.free) ∧ Aside0 (Kd.R lf 85 w' base (fun _ => True) (.slice Aa b.attrs.length ca) b.attrs) ∧ Aside0 (Kd.R (Kd.int .i64) 3 w' base (fun _ => True) (.slice As b.slots.length cs) b.slots) ∧ Aside0 (Kd.R (Kd.int .i64) 3 w' base (fun _ => True) (.slice Ap b.free.length cp) b.free) ∧ Aside0 (Kd.R ia 76 w' base (fun _ => True) (.slice Am M.length cm) M) ∧ Aside0 (aX w' gX (bk b.addr b.aff b.slots (.slice Af b.free.length cf) (.slice Aa b.attrs.length ca)) 57) ∧ Aside0 (aX w' gY (dH b.addr b.aff (.slice As b.slots.length cs) (.slice Ap b.free.length cp) (.slice Am M.length cm)) 62) ∧ Aside0 (aX w' gT [.int .i64 kd, .int .i64 n, .string a.f0, .string a.f1, .slice Al l.length cl, .string aff] 79) ∧ Aside0 (aX w' gZ bu 57) ∧ Aside0 (aX w' gU dW 62) ∧ Aside0 (aX w' s.1 bu 57) ∧ Aside0 (w.heap.size ≤ s.1) ∧ Aside0 (gX ≠ s.1) ∧ Aside0 (gZ ≠ s.1) ∧ Aside0 (eP w' base s.2.1 nb) ∧ Aside0 (Kd.R (Kd.int .u32) 46 w' base (fun _ => True) s.2.2 oo)) ?_ ?_
 rotate_left
 ·intro fe
  refine tw 5 11 ag.out (fun K hK => ?_) (fun K hK => ?_)
  ·skip
   refine gs Try.func50 #[.agg #[.string a.f0, .string a.f1]] (lF a _) ?_
   rintro e V5 ⟨rfl, I⟩
   refine ⟨_, rfl, ?_⟩
   (try replace hV := mv I hV); (try replace ei := mv I ei); (try replace hQ := mv I hQ); replace hB := mv I hB; replace hF := mv I hF; replace hG := mv I hG; replace hS := mv I hS; replace hP := mv I hP; replace hM := mv I hM; replace hX := mv I hX; replace hY := mv I hY; replace hT := mv I hT; replace hZ := mv I hZ; replace hU := mv I hU; clear  I
   refine kn hK ⟨hX.out, hT.out⟩ (fun hHeld => ?_)
   clear hK K
   refine tw 6 11 ag.out (fun K hK => ?_) (fun K hK => ?_)
   ·skip
    refine gs Try.func49 #[.agg (bk b.addr b.aff b.slots (.slice Af b.free.length cf) (.slice Aa b.attrs.length ca)).toArray, .int .i64 n, fv (cv a)] (HBL.out _ _ ⟨_, _, _, _, rfl, ⟨HL.out, (rr hF).1, (rr hF).2, (rr hG).1, (rr hG).2⟩⟩) ?_
    rintro e V6 ⟨v_, ml, rfl, bc, fM, I⟩
    refine ⟨_, rfl, ?_⟩
    have hV := ak (bc.lower (lb HBASE hB)); have ei := ak (Kd.R_lower fM (lb HBASE hB)); (try replace hQ := mv I hQ); replace hB := mv I hB; replace hF := mv I hF; replace hG := mv I hG; replace hS := mv I hS; replace hP := mv I hP; replace hM := mv I hM; replace hX := mv I hX; replace hY := mv I hY; replace hT := mv I hT; replace hZ := mv I hZ; replace hU := mv I hU; clear bc fM I
    refine kn hK ⟨hX.out, hT.out⟩ (fun hHeld => ?_)
    clear hK K
    refine pu 7 ag.out ?_
    refine pu 8 ag.out ?_
    refine pu 9 ag.out ?_
    refine pu 10 ag.out ?_
    refine on 11 ag.out (fun K hK => ?_)
    refine eJ (by rfl) 57 rfl bu b6 ?_
    intro gQ p9 J aa I
    have dr := ge hB J
    have bI := ne hX J
    have bs := ne hZ J
    (try replace hV := mv I hV)
    (try replace ei := mv I ei)
    replace hB := mv I hB
    replace hF := mv I hF
    replace hG := mv I hG
    replace hS := mv I hS
    replace hP := mv I hP
    replace hM := mv I hM
    replace hX := mv I hX
    replace hY := mv I hY
    replace hT := mv I hT
    replace hZ := mv I hZ
    replace hU := mv I hU
    have hQ := ak aa
    clear J aa I
    refine kn hK ⟨hX.out, hT.out⟩ (fun hHeld => ?_)
    clear hK K
    exact nc (fe ⟨gQ, v_, ml⟩ _ ⟨hB, hF, hG, hS, hP, hM, hX, hY, hT, hZ, hU, hQ, dr, bI, bs, hV, ei⟩)
   ·skip
    refine eJ (by rfl) 57 rfl bu b6 ?_
    intro gQ p9 J aa I
    have dr := ge hB J
    have bI := ne hX J
    have bs := ne hZ J
    (try replace hV := mv I hV)
    (try replace ei := mv I ei)
    replace hB := mv I hB
    replace hF := mv I hF
    replace hG := mv I hG
    replace hS := mv I hS
    replace hP := mv I hP
    replace hM := mv I hM
    replace hX := mv I hX
    replace hY := mv I hY
    replace hT := mv I hT
    replace hZ := mv I hZ
    replace hU := mv I hU
    have hQ := ak aa
    clear J aa I
    refine kn hK ⟨hX.out, hT.out⟩ (fun hHeld => ?_)
    clear hK K
    refine on 6 ag.out (fun K hK => ?_)
    refine gs Try.func49 #[.agg (bk b.addr b.aff b.slots (.slice Af b.free.length cf) (.slice Aa b.attrs.length ca)).toArray, .int .i64 n, fv (cv a)] (HBL.out _ _ ⟨_, _, _, _, rfl, ⟨HL.out, (rr hF).1, (rr hF).2, (rr hG).1, (rr hG).2⟩⟩) ?_
    rintro e V6 ⟨v_, ml, rfl, bc, fM, I⟩
    refine ⟨_, rfl, ?_⟩
    have hV := ak (bc.lower (lb HBASE hB)); have ei := ak (Kd.R_lower fM (lb HBASE hB)); (try replace hQ := mv I hQ); replace hB := mv I hB; replace hF := mv I hF; replace hG := mv I hG; replace hS := mv I hS; replace hP := mv I hP; replace hM := mv I hM; replace hX := mv I hX; replace hY := mv I hY; replace hT := mv I hT; replace hZ := mv I hZ; replace hU := mv I hU; clear bc fM I
    refine kn hK ⟨hX.out, hT.out⟩ (fun hHeld => ?_)
    clear hK K
    refine pu 7 ag.out ?_
    refine pu 8 ag.out ?_
    refine pu 9 ag.out ?_
    refine pu 10 ag.out ?_
    exact nc (fe ⟨gQ, v_, ml⟩ _ ⟨hB, hF, hG, hS, hP, hM, hX, hY, hT, hZ, hU, hQ, dr, bI, bs, hV, ei⟩)
  ·skip
   refine eJ (by rfl) 57 rfl bu b6 ?_
   intro gQ p9 J aa I
   have dr := ge hB J
   have bI := ne hX J
   have bs := ne hZ J
   (try replace hV := mv I hV)
   (try replace ei := mv I ei)
   replace hB := mv I hB
   replace hF := mv I hF
   replace hG := mv I hG
   replace hS := mv I hS
   replace hP := mv I hP
   replace hM := mv I hM
   replace hX := mv I hX
   replace hY := mv I hY
   replace hT := mv I hT
   replace hZ := mv I hZ
   replace hU := mv I hU
   have hQ := ak aa
   clear J aa I
   refine kn hK ⟨hX.out, hT.out⟩ (fun hHeld => ?_)
   clear hK K
   refine on 5 ag.out (fun K hK => ?_)
   refine gs Try.func50 #[.agg #[.string a.f0, .string a.f1]] (lF a _) ?_
   rintro e V5 ⟨rfl, I⟩
   refine ⟨_, rfl, ?_⟩
   (try replace hV := mv I hV); (try replace ei := mv I ei); (try replace hQ := mv I hQ); replace hB := mv I hB; replace hF := mv I hF; replace hG := mv I hG; replace hS := mv I hS; replace hP := mv I hP; replace hM := mv I hM; replace hX := mv I hX; replace hY := mv I hY; replace hT := mv I hT; replace hZ := mv I hZ; replace hU := mv I hU; clear  I
   refine kn hK ⟨hX.out, hT.out⟩ (fun hHeld => ?_)
   clear hK K
   refine on 6 ag.out (fun K hK => ?_)
   refine gs Try.func49 #[.agg (bk b.addr b.aff b.slots (.slice Af b.free.length cf) (.slice Aa b.attrs.length ca)).toArray, .int .i64 n, fv (cv a)] (HBL.out _ _ ⟨_, _, _, _, rfl, ⟨HL.out, (rr hF).1, (rr hF).2, (rr hG).1, (rr hG).2⟩⟩) ?_
   rintro e V6 ⟨v_, ml, rfl, bc, fM, I⟩
   refine ⟨_, rfl, ?_⟩
   have hV := ak (bc.lower (lb HBASE hB)); have ei := ak (Kd.R_lower fM (lb HBASE hB)); (try replace hQ := mv I hQ); replace hB := mv I hB; replace hF := mv I hF; replace hG := mv I hG; replace hS := mv I hS; replace hP := mv I hP; replace hM := mv I hM; replace hX := mv I hX; replace hY := mv I hY; replace hT := mv I hT; replace hZ := mv I hZ; replace hU := mv I hU; clear bc fM I
   refine kn hK ⟨hX.out, hT.out⟩ (fun hHeld => ?_)
   clear hK K
   refine pu 7 ag.out ?_
   refine pu 8 ag.out ?_
   refine pu 9 ag.out ?_
   refine pu 10 ag.out ?_
   exact nc (fe ⟨gQ, v_, ml⟩ _ ⟨hB, hF, hG, hS, hP, hM, hX, hY, hT, hZ, hU, hQ, dr, bI, bs, hV, ei⟩)
 intro s w' hFF; obtain ⟨gQ, v_, ml⟩ := s; simp only at hFF; obtain ⟨hB, hF, hG, hS, hP, hM, hX, hY, hT, hZ, hU, hQ, dr, bI, bs, hV, ei⟩ := hFF; have bc := hV.out; obtain ⟨iZ, p6, p7, rfl, dM, ew⟩ := bc; obtain ⟨A8, c8, rfl⟩ := Kd.R_slice dM; obtain ⟨A9, c9, rfl⟩ := Kd.R_slice ew; obtain ⟨Ao, co, rfl⟩ := Kd.R_slice ei.out; have hC := ak dM; have hD := ak ew; have hO := ei; clear hV ei iZ dM ew
 refine nj ?_
 refine ow 12 ag.out (fun K hK => ?_)
 refine bS (by rfl) rfl 57 (.tmp 10) (.tmp 53) rfl gQ (bk nb.addr nb.aff nb.slots (.slice A8 nb.free.length c8) (.slice A9 nb.attrs.length c9)) rfl rfl 57 _ hQ.out 68 (by kernel_rfl) (ao _ _ _ _ _ HNL.out) rfl (cA _ _ _ _ _ rfl rfl) ?_
 intro Rk aa J; replace hB := gb hB dr J; replace hF := gr hF hQ J; replace hG := gr hG hQ J; replace hS := gr hS hQ J; replace hP := gr hP hQ J; replace hM := gr hM hQ J; replace hX := gn hX bI J; replace hY := gx hY hQ J; replace hT := gx hT hQ J; replace hZ := gn hZ bs J; replace hU := gx hU hQ J; replace hC := gr hC hQ J; replace hD := gr hD hQ J; replace hO := gr hO hQ J; replace hQ := ak (aa); clear aa J
 refine hK.out _ _ ⟨hX.out, hT.out⟩ (fun hHeld => ?_)
 clear hK K
 refine pu 13 ag.out ?_
 refine pu 14 ag.out ?_
 refine dn ag.out ?_
 clear hHeld
 have iK := hT.out.cell 1 _ rfl
 go_wp2_with (first
  | ((with_reducible refine aJ (N := 57) rfl ?_); refine fN rfl 76 (.tmp 56) rfl gT 2 rfl 79 _ [.string a.f0, .string a.f1] _ hT.out xv Try.underlying76 rfl (by kernel_rfl) ?_)
  | (go_at_call 60; refine (HMY.out _).mono ?_; rintro e sQ ⟨rfl, I⟩; have jB := mv I hB; have kg := mv I hF; have ke := mv I hG; have iV := mv I hS; have iW := mv I hP; have iX := mv I hM; have j8 := mv I hX; have iU := mv I hY; have oF := mv I hT; have j7 := mv I hZ; have j9 := mv I hU; have kb := mv I hQ; have kl := mv I hC; have kj := mv I hD; have tS := mv I hO; have DZ := oF.out.cell 1 _ rfl; clear I hB hF hG hS hP hM hX hY hT hZ hU hQ hC hD hO iK))
 clear DZ
 have aq : Below sQ.heap.size sQ sQ.drew := bL (Below.refl _ _)
 have jS := mv aq jB; have kf := mv aq kg; have kc := mv aq ke; have jy := mv aq iV; have jz := mv aq iW; have jA := mv aq iX; have jO := mv aq j8; have jg := mv aq iU; have rF := mv aq oF; have jN := mv aq j7; have jQ := mv aq j9; have jR := mv aq kb; have kk := mv aq kl; have ki := mv aq kj; have tR := mv aq tS
 clear aq jB kg ke iV iW iX j8 iU oF j7 j9 kb kl kj tS
 have hB := jS
 have hF := kf
 have hG := kc
 have hS := jy
 have hP := jz
 have hM := jA
 have hX := jO
 have hY := jg
 have hT := rF
 have hZ := jN
 have hU := jQ
 have hQ := jR
 have hC := kk
 have hD := ki
 have hO := tR
 clear jS kf kc jy jz jA jO jg rF jN jQ jR kk ki tR
 refine dR (n := 16) (S := fun w' => aX w' gX (bk b.addr b.aff b.slots (.slice Af b.free.length cf) (.slice Aa b.attrs.length ca)) 57 ∧ aX w' gY (dH b.addr b.aff (.slice As b.slots.length cs) (.slice Ap b.free.length cp) (.slice Am M.length cm)) 62 ∧ aX w' gQ (bk nb.addr nb.aff nb.slots (.slice A8 nb.free.length c8) (.slice A9 nb.attrs.length c9)) 57) (ds := []) #[false, false, false, false, false, false, false, false, false, false, false, false, false, false, false, false] (by kernel_rfl) rfl rfl ⟨hX.out, hY.out, hQ.out⟩ (fun hHeld => ?_); refine b5 uA.tab9 uA.bits9 (fun ag bM => ?_)
 refine tk 0 ag.out bM.out hHeld ?_ (hv := by exact fun _ bj => aY 57 (.tmp 3) rfl gX rfl _ _ _ bj.1 Try.underlying57 rfl HLB.out)
 refine tk 1 ag.out bM.out hHeld ?_ (hv := by exact fun _ bj => aY 62 (.tmp 4) rfl gY rfl _ _ _ bj.2.1 Try.underlying62 rfl (by kernel_rfl))
 refine pu 2 ag.out ?_
 refine pu 3 ag.out ?_
 refine pu 4 ag.out ?_
 refine tk 5 ag.out bM.out hHeld ?_ (hv := by exact fun _ bj => aY 57 (.tmp 10) rfl gQ rfl _ _ _ bj.2.2 Try.underlying57 rfl (HLN _ _ _ _))
 refine on 6 ag.out (fun K hK => ?_)
 refine gs Try.func43 #[.agg (bk nb.addr nb.aff nb.slots (.slice A8 nb.free.length c8) (.slice A9 nb.attrs.length c9)).toArray] (HZR.out _ _ ⟨_, _, _, _, rfl, ⟨HNL.out, (rr hC).1, (rr hC).2, (rr hD).1, (rr hD).2⟩⟩) ?_
 rintro e V6 ⟨rfl, I⟩
 refine ⟨_, rfl, ?_⟩
 replace hB := mv I hB; replace hF := mv I hF; replace hG := mv I hG; replace hS := mv I hS; replace hP := mv I hP; replace hM := mv I hM; replace hX := mv I hX; replace hY := mv I hY; replace hT := mv I hT; replace hZ := mv I hZ; replace hU := mv I hU; replace hQ := mv I hQ; replace hC := mv I hC; replace hD := mv I hD; replace hO := mv I hO
 refine kn hK ⟨hX.out, hY.out, hQ.out⟩ (fun hHeld => ?_)
 clear hK K
 refine pu 7 ag.out ?_
 refine pu 8 ag.out ?_
 refine pu 9 ag.out ?_
 refine pu 10 ag.out ?_
 refine pu 11 ag.out ?_
 refine pu 12 ag.out ?_
 refine ow 13 ag.out (fun K hK => ?_)
 refine bS (by rfl) rfl 57 (.tmp 6) (.tmp 65) rfl gZ (bk b.addr b.aff b.slots (.slice Af b.free.length cf) (.slice Aa b.attrs.length ca)) rfl rfl 57 _ hZ.out 68 (by kernel_rfl) (ao _ _ _ _ _ HL.out) rfl (cA _ _ _ _ _ rfl rfl) ?_
 intro Z6 aa J; replace hB := gb hB ct J; replace hF := gr hF hZ J; replace hG := gr hG hZ J; replace hS := gr hS hZ J; replace hP := gr hP hZ J; replace hM := gr hM hZ J; replace hX := gn hX aU J; replace hY := gx hY hZ J; replace hT := gx hT hZ J; replace hU := gx hU hZ J; replace hQ := gm hQ bs J; replace hC := gr hC hZ J; replace hD := gr hD hZ J; replace hO := gr hO hZ J; replace hZ := ak (aa); clear aa J
 refine hK.out _ _ ⟨hX.out, hY.out, hQ.out⟩ (fun hHeld => ?_)
 clear hK K
 refine ow 14 ag.out (fun K hK => ?_)
 refine bS (by rfl) rfl 62 (.tmp 7) (.tmp 66) rfl gU (dH b.addr b.aff (.slice As b.slots.length cs) (.slice Ap b.free.length cp) (.slice Am M.length cm)) rfl rfl 62 _ hU.out 5 (by kernel_rfl) rfl rfl (et _ _ rfl rfl rfl) ?_
 intro Z5 aa J; replace hB := gb hB fR J; replace hF := gr hF hU J; replace hG := gr hG hU J; replace hS := gr hS hU J; replace hP := gr hP hU J; replace hM := gr hM hU J; replace hX := gx hX hU J; replace hY := gn hY dO J; replace hT := gx hT hU J; replace hZ := gx hZ hU J; replace hQ := gx hQ hU J; replace hC := gr hC hU J; replace hD := gr hD hU J; replace hO := gr hO hU J; replace hU := ak (aa); clear aa J
 refine hK.out _ _ ⟨hX.out, hY.out, hQ.out⟩ (fun hHeld => ?_)
 clear hK K
 refine pu 15 ag.out ?_
 refine dn ag.out ?_
 clear hHeld
 go_wp2_with fail
 refine bodyPost_ret (fD rfl _ _ _ gZ gU 57 62 _ _ _ _ rfl hZ.out rfl Try.underlying57 (by first | exact HLB.out | exact HLN _ _ _ _) rfl hU.out rfl Try.underlying62 (by kernel_rfl)) rfl ⟨_, _, b, rfl, ?_, ?_, ?_, hB.out⟩
 ·exact HG.out
 ·exact ⟨HL.out, _, _, rfl, hF.out, hG.out⟩
 ·exact ⟨_, _, _, rfl, hS.out, hP.out, by rw [← HM.out]; exact hM.out⟩
set_option maxHeartbeats 16000000 in
set_option maxRecDepth 100000 in
theorem Pm (b : Bk) (hg : RG b) (kd : Int) (hkd : kd = 0 ∨ kd = 1) (n : Int) (hn : n < 9223372036854775808) (a : lN) (fE : a.f0.size ≤ 9223372036854775807) (gh : a.f1.size ≤ 9223372036854775807) (l : List Int) (hu : ∀ x ∈ l, 0 ≤ x ∧ x < 4294967296) (hlm : l.length ≤ 9223372036854775807) (Al : Option Addr) (cl : Nat) (hcl : l.length ≤ cl) (aff : ByteArray) (hza : aff.size ≤ 9223372036854775807) (hma : fj (cv a) = true) (n5 : n < 0) (v v2 : Value) (w : World) (base : Nat) (hbase : base ≤ w.heap.size) (hO : eP w base v b) (hR : fw w base v2 b) (hC : Kd.C (Kd.int .u32) w Al l.length l) :
  Calls Try.prog 47 #[v, v2, .agg #[.int .i64 kd, .int .i64 n, .string a.f0, .string a.f1, .slice Al l.length cl, .string aff]] w fun e w' => ∃ v1 v2 b', e = .returned (.tuple #[v1, v2, .bool true]) ∧ RG b' ∧ eP w' base v1 b' ∧ fw w' base v2 b' ∧ Below w.heap.size w w' := by
 obtain ⟨hl, vf, va, rfl, hf, ha⟩ := hO
 obtain ⟨vs, vp, vm, rfl, hs, hp, hm⟩ := hR
 obtain ⟨Af, cf, rfl⟩ := Kd.R_slice hf
 obtain ⟨Aa, ca, rfl⟩ := Kd.R_slice ha
 obtain ⟨As, cs, rfl⟩ := Kd.R_slice hs
 obtain ⟨Ap, cp, rfl⟩ := Kd.R_slice hp
 obtain ⟨M, hM⟩ : ∃ M, M = b.attrs.map vc := ⟨_, rfl⟩
 rw [← hM] at hm
 obtain ⟨Am, cm, rfl⟩ := Kd.R_slice hm
 have HL := ak hl
 have HM := ak hM
 have bU := ak hf
 have eT := ak ha
 have bl := ak hs
 have eR := ak hp
 have cb := ak hm
 have HG := ak hg
 have an := ak (Below.refl w.heap.size w)
 have HBASE := ak hbase
 have HLB := ak (dc (bk b.addr b.aff b.slots (.slice Af b.free.length cf) (.slice Aa b.attrs.length ca)) (ao _ _ _ _ _ HL.out))
 obtain ⟨lt, hlt⟩ : ∃ lt, lt = l.take 80 := ⟨_, rfl⟩
 have hut : ∀ x ∈ lt, 0 ≤ x ∧ x < 4294967296 := fun x hx => hu x (by rw [hlt] at hx; exact List.mem_of_mem_take hx)
 have hll : lt.length = min 80 l.length := by rw [hlt, List.length_take]
 have HCL := ak hcl
 have HLL := ak hll
 have HC := ak hC
 have HCT := ak (fun W (I : Below w.heap.size w W) => (show Kd.C (Kd.int .u32) W Al lt.length lt by
  rcases Nat.lt_or_ge 80 l.length with h | h
  ·have h_ := Kd.C_take (m := 80) (Kd.C_below hC I) (by omega)
   rw [← hlt] at h_
   exact h_
  ·have h_ := Kd.C_below hC I
   have e : lt = l := by rw [hlt, List.take_of_length_le h]
   rw [e]
   exact h_))
 have hbl := fun v w h => rA b hg.ok n hn (cv a) v w h
 have hok : mX b n (cv a) = false := by unfold mX; rw [hma, decide_eq_false (by omega)]; simp
 rw [hok] at hbl
 simp only [Bool.false_eq_true, if_false, if_true] at hbl
 have HMY := ak (fun w => sw a fE gh w)
 rw [hma] at HMY
 have n0 : decide (n < 0) = true := by simp; omega
 obtain ⟨nb, hnb⟩ : ∃ nb, nb = kC := ⟨_, rfl⟩
 have hnl : kC.slots.length = 64 := rfl
 rw [← hnb] at hbl hnl
 have HNB := ak hnb
 have HNL := ak hnl
 have HLN := fun A8 c8 A9 c9 => dc (bk nb.addr nb.aff nb.slots (.slice A8 nb.free.length c8) (.slice A9 nb.attrs.length c9)) (ao _ _ _ _ _ HNL.out)
 have HZR := ak (fun v w h => oH v w (by rw [← HNB.out]; exact h))
 obtain ⟨oo, hoo⟩ : ∃ oo : List Int, oo = [] := ⟨_, rfl⟩
 rw [← hoo] at hbl
 have o0 : decide ((oo.length : Int) = 0) = true := by rw [hoo]; rfl
 have o1 : ((oo.length : Int) == 0) = true := by rw [hoo]; rfl
 have o2 : ((oo.length : Int) = 0) = True := by rw [hoo]; simp
 have o3 : (oo.length = 0) = True := by rw [hoo]; simp
 have o4 : (oo = []) = True := eq_true hoo
 have HBL := ak hbl
 clear hbl hnb hnl hma hok hoo n5
 have HKD := ak hkd
 clear hkd
 clear hl hM hf ha hs hp hm hbase hC hu hut hll hcl hlt hg
 go_enter Try.func47, Try.ntmps47
 go_upto_if 37 with (first
  | (refine aV rfl 57 (.tmp 0) rfl _ rfl ?_; intro gX W1 J aa I; have cw := ge an J; have aA := ak (an.out.trans (I.mono an.out.size)); have bJ := mv I bU; have ea := mv I eT; have bC := mv I bl; have ee := mv I eR; have b7 := mv I cb; have au := ak (aa); clear J aa I an bU eT bl eR cb)
  | (refine aV rfl 62 (.tmp 1) rfl _ rfl ?_; intro gY W2 J aa I; have jT := ge aA J; have gC := ne au J; have aK := mv I aA; have ch := mv I bJ; have er := mv I ea; have b4 := mv I bC; have ej := mv I ee; have dm := mv I b7; have aI := mv I au; have dk := ak (aa); clear J aa I aA bJ ea bC ee b7 au)
  | (refine aV rfl 79 (.tmp 2) rfl _ rfl ?_; intro gT W3 J aa I; have ld := ge aK J; have iL := ne aI J; have jf := ne dk J; have aT := mv I aK; have cW := mv I ch; have eG := mv I er; have cH := mv I b4; have eN := mv I ej; have dT := mv I dm; have aQ := mv I aI; have dj := mv I dk; have ey := ak (aa); clear J aa I aK ch er b4 ej dm aI dk)
  | (refine aH (some 6) rfl rfl 57 rfl bu b6 ?_; intro gZ W4 J aa I; have ct := ge aT J; have aU := ne aQ J; have gS := ne dj J; have ky := ne ey J; have bq := mv I aT; have cU := mv I cW; have eo := mv I eG; have dC := mv I cH; have fg := mv I eN; have dZ := mv I dT; have bg := mv I aQ; have di := mv I dj; have eF := mv I ey; have bB := ak (aa); clear J aa I aT cW eG cH eN dT aQ dj ey)
  | (refine aH (some 7) rfl rfl 62 rfl dW (fun _ => by kernel_rfl) ?_; intro gU W5 J aa I; have fR := ge bq J; have ig := ne bg J; have dO := ne di J; have jI := ne eF J; have iA := ne bB J; have bE := mv I bq; have cQ := mv I cU; have dJ := mv I eo; have dG := mv I dC; have eV := mv I fg; have dw := mv I dZ; have bz := mv I bg; have dY := mv I di; have bQ := mv I eF; have bY := mv I bB; have ff := ak (aa); have kt := bQ.out.cell 0 _ rfl; have iK := bQ.out.cell 1 _ rfl; have ks := bQ.out.cell 2 _ rfl; have kr := bQ.out.cell 3 _ rfl; have kp := bQ.out.cell 4 _ rfl; have ix := bQ.out.cell 5 _ rfl; clear J aa I bq cU eo dC fg dZ bg di eF bB))
 go_cut [9] from 38 to 39 (fun s9 wx => s9 = .slice Al lt.length cl ∧ W5 = wx)
 case first =>
  rcases Nat.lt_or_ge 80 l.length with mA | mA
  ·have mz : decide ((80 : Int) < (l.length : Int)) = true := by simp; omega
   have wI : (((0 : Int) ≤ 80 ∧ (80 : Int) ≤ (cl : Int)) = True) := eq_true ⟨by omega, by have := HCL.out; omega⟩
   have wH : (((80 : Int) ≤ (cl : Int)) = True) := eq_true (by have := HCL.out; omega)
   go_wp2_with fail
   go_meet
   exact ⟨by rw [HLL.out, Nat.min_eq_left (by omega)], rfl⟩
  ·have mz : decide ((80 : Int) < (l.length : Int)) = false := by simp; omega
   go_wp2_with fail
   go_meet
   exact ⟨by rw [HLL.out, Nat.min_eq_right (by omega)], rfl⟩
 case rest =>
 obtain ⟨ic, ib⟩ := hcut
 subst ic
 subst ib
 go_upto_if 42 with fail
 go_cut [42] from 43 to 44 (fun vR wx => vR = .bool true ∧ W5 = wx)
 case first =>
  rcases HKD.out with dS | dS
  ·skip
   have Ck : (kd = 0) = True := eq_true (by omega)
   have II : decide (kd = 0) = true := by simp; omega
   have Iw : (kd == 0) = true := by simp; omega
   clear dS
   go_wp2_with fail
   go_meet
   exact ⟨by first | rfl | simp [Ck], rfl⟩
  ·skip
   have Ck : (kd = 0) = False := eq_false (by omega)
   have II : decide (kd = 0) = false := by simp; omega
   have Iw : (kd == 0) = false := by simp; omega
   have xh : (kd = 1) = True := eq_true (by omega)
   have TE : decide (kd = 1) = true := by simp; omega
   have TB : (kd == 1) = true := by simp; omega
   clear dS
   go_wp2_with fail
   go_meet
   exact ⟨by first | rfl | simp [xh], rfl⟩
 case rest =>
 obtain ⟨ic, ib⟩ := hcut
 subst ic
 subst ib
 go_wp2_with fail
 have aq : Below W5.heap.size W5 W5.drew := bL (Below.refl _ _)
 have bZ := mv aq bE; have dD := mv aq cQ; have ef := mv aq dJ; have dN := mv aq dG; have eU := mv aq eV; have ez := mv aq dw; have bH := mv aq bz; have du := mv aq dY; have fJ := mv aq bQ; have cn := mv aq bY; have dI := mv aq ff
 clear aq bE cQ dJ dG eV dw bz dY bQ bY ff kt iK ks kr kp ix
 have hB := bZ
 have hF := dD
 have hG := ef
 have hS := dN
 have hP := eU
 have hM := ez
 have hX := bH
 have hY := du
 have hT := fJ
 have hZ := cn
 have hU := dI
 clear bZ dD ef dN eU ez bH du fJ cn dI
 refine dR (n := 15) (S := fun w' => aX w' gX (bk b.addr b.aff b.slots (.slice Af b.free.length cf) (.slice Aa b.attrs.length ca)) 57 ∧ aX w' gT [.int .i64 kd, .int .i64 n, .string a.f0, .string a.f1, .slice Al l.length cl, .string aff] 79) (ds := []) #[false, false, false, false, false, false, false, false, false, false, false, false, false, false, false] (by kernel_rfl) rfl rfl ⟨hX.out, hT.out⟩ (fun hHeld => ?_); refine b5 qY.tab7 qY.bits7 (fun ag bM => ?_)
 refine tk 0 ag.out bM.out hHeld ?_ (hv := by exact fun _ bj => aY 57 (.tmp 3) rfl gX rfl _ _ _ bj.1 Try.underlying57 rfl HLB.out)
 refine pu 1 ag.out ?_
 refine tk 2 ag.out bM.out hHeld ?_ (hv := by intro w' bj; have Gc := bj.2.cell 1 _ rfl; go_simp; with_reducible rfl)
 refine pu 3 ag.out ?_
 refine tk 4 ag.out bM.out hHeld ?_ (hv := by exact fun _ bj => pg 76 (.tmp 49) rfl gT 2 rfl _ _ [.string a.f0, .string a.f1] _ bj.2 xv Try.underlying76 rfl (by kernel_rfl))
 refine ru (σ := Nat × Value × Value) 3 #[true, true, true, true, true, true, true, true, true, true, true, true, false, false, false] (fun s => [(51, fv (cv a)), (52, .tuple #[s.2.1, s.2.2, .int .i64 1]), (45, .tuple #[s.2.1, s.2.2, .int .i64 1]), (53, s.2.1), (54, s.2.2), (55, .int .i64 1), (10, .pointer (some ⟨s.1, 0, none⟩))]) (fun s w' => Aside0 (Below w.heap.size w w') ∧ Aside0 (Kd.R (Kd.int .u8) 5 w' base (fun _ => True) (.slice Af b.free.length cf) b.free) ∧ Aside0 (Kd.R lf 85 w' base (fun _ => True) (.slice Aa b.attrs.length ca) b.attrs) ∧ Aside0 (Kd.R (Kd.int .i64) 3 w' base (fun _ => True) (.slice As b.slots.length cs) b.slots) ∧ Aside0 (Kd.R (Kd.int .i64) 3 w' base (fun _ => True) (.slice Ap b.free.length cp) b.free) ∧ Aside0 (Kd.R ia 76 w' base (fun _ => True) (.slice Am M.length cm) M) ∧ Aside0 (aX w' gX (bk b.addr b.aff b.slots (.slice Af b.free.length cf) (.slice Aa b.attrs.length ca)) 57) ∧ Aside0 (aX w' gY (dH b.addr b.aff (.slice As b.slots.length cs) (.slice Ap b.free.length cp) (.slice Am M.length cm)) 62) ∧ Aside0 (aX w' gT [.int .i64 kd, .int .i64 n, .string a.f0, .string a.f1, .slice Al l.length cl, .string aff] 79) ∧ Aside0 (aX w' gZ bu 57) ∧ Aside0 (aX w' gU dW 62) ∧ Aside0 (aX w' s.1 bu 57) ∧ Aside0 (w.heap.size ≤ s.1) ∧ Aside0 (gX ≠ s.1) ∧ Aside0 (gZ ≠ s.1) ∧ Aside0 (eP w' base s.2.1 nb) ∧ Aside0 (Kd.R (Kd.int .u32) 46 w' base (fun _ => True) s.2.2 oo)) ?_ ?_
 rotate_left
 ·intro fe
  refine tw 5 11 ag.out (fun K hK => ?_) (fun K hK => ?_)
  ·skip
   refine gs Try.func50 #[.agg #[.string a.f0, .string a.f1]] (lF a _) ?_
   rintro e V5 ⟨rfl, I⟩
   refine ⟨_, rfl, ?_⟩
   (try replace hV := mv I hV); (try replace ei := mv I ei); (try replace hQ := mv I hQ); replace hB := mv I hB; replace hF := mv I hF; replace hG := mv I hG; replace hS := mv I hS; replace hP := mv I hP; replace hM := mv I hM; replace hX := mv I hX; replace hY := mv I hY; replace hT := mv I hT; replace hZ := mv I hZ; replace hU := mv I hU; clear  I
   refine kn hK ⟨hX.out, hT.out⟩ (fun hHeld => ?_)
   clear hK K
   refine tw 6 11 ag.out (fun K hK => ?_) (fun K hK => ?_)
   ·skip
    refine gs Try.func49 #[.agg (bk b.addr b.aff b.slots (.slice Af b.free.length cf) (.slice Aa b.attrs.length ca)).toArray, .int .i64 n, fv (cv a)] (HBL.out _ _ ⟨_, _, _, _, rfl, ⟨HL.out, (rr hF).1, (rr hF).2, (rr hG).1, (rr hG).2⟩⟩) ?_
    rintro e V6 ⟨v_, ml, rfl, bc, fM, I⟩
    refine ⟨_, rfl, ?_⟩
    have hV := ak (bc.lower (lb HBASE hB)); have ei := ak (Kd.R_lower fM (lb HBASE hB)); (try replace hQ := mv I hQ); replace hB := mv I hB; replace hF := mv I hF; replace hG := mv I hG; replace hS := mv I hS; replace hP := mv I hP; replace hM := mv I hM; replace hX := mv I hX; replace hY := mv I hY; replace hT := mv I hT; replace hZ := mv I hZ; replace hU := mv I hU; clear bc fM I
    refine kn hK ⟨hX.out, hT.out⟩ (fun hHeld => ?_)
    clear hK K
    refine pu 7 ag.out ?_
    refine pu 8 ag.out ?_
    refine pu 9 ag.out ?_
    refine pu 10 ag.out ?_
    refine on 11 ag.out (fun K hK => ?_)
    refine eJ (by rfl) 57 rfl bu b6 ?_
    intro gQ p9 J aa I
    have dr := ge hB J
    have bI := ne hX J
    have bs := ne hZ J
    (try replace hV := mv I hV)
    (try replace ei := mv I ei)
    replace hB := mv I hB
    replace hF := mv I hF
    replace hG := mv I hG
    replace hS := mv I hS
    replace hP := mv I hP
    replace hM := mv I hM
    replace hX := mv I hX
    replace hY := mv I hY
    replace hT := mv I hT
    replace hZ := mv I hZ
    replace hU := mv I hU
    have hQ := ak aa
    clear J aa I
    refine kn hK ⟨hX.out, hT.out⟩ (fun hHeld => ?_)
    clear hK K
    exact nc (fe ⟨gQ, v_, ml⟩ _ ⟨hB, hF, hG, hS, hP, hM, hX, hY, hT, hZ, hU, hQ, dr, bI, bs, hV, ei⟩)
   ·skip
    refine eJ (by rfl) 57 rfl bu b6 ?_
    intro gQ p9 J aa I
    have dr := ge hB J
    have bI := ne hX J
    have bs := ne hZ J
    (try replace hV := mv I hV)
    (try replace ei := mv I ei)
    replace hB := mv I hB
    replace hF := mv I hF
    replace hG := mv I hG
    replace hS := mv I hS
    replace hP := mv I hP
    replace hM := mv I hM
    replace hX := mv I hX
    replace hY := mv I hY
    replace hT := mv I hT
    replace hZ := mv I hZ
    replace hU := mv I hU
    have hQ := ak aa
    clear J aa I
    refine kn hK ⟨hX.out, hT.out⟩ (fun hHeld => ?_)
    clear hK K
    refine on 6 ag.out (fun K hK => ?_)
    refine gs Try.func49 #[.agg (bk b.addr b.aff b.slots (.slice Af b.free.length cf) (.slice Aa b.attrs.length ca)).toArray, .int .i64 n, fv (cv a)] (HBL.out _ _ ⟨_, _, _, _, rfl, ⟨HL.out, (rr hF).1, (rr hF).2, (rr hG).1, (rr hG).2⟩⟩) ?_
    rintro e V6 ⟨v_, ml, rfl, bc, fM, I⟩
    refine ⟨_, rfl, ?_⟩
    have hV := ak (bc.lower (lb HBASE hB)); have ei := ak (Kd.R_lower fM (lb HBASE hB)); (try replace hQ := mv I hQ); replace hB := mv I hB; replace hF := mv I hF; replace hG := mv I hG; replace hS := mv I hS; replace hP := mv I hP; replace hM := mv I hM; replace hX := mv I hX; replace hY := mv I hY; replace hT := mv I hT; replace hZ := mv I hZ; replace hU := mv I hU; clear bc fM I
    refine kn hK ⟨hX.out, hT.out⟩ (fun hHeld => ?_)
    clear hK K
    refine pu 7 ag.out ?_
    refine pu 8 ag.out ?_
    refine pu 9 ag.out ?_
    refine pu 10 ag.out ?_
    exact nc (fe ⟨gQ, v_, ml⟩ _ ⟨hB, hF, hG, hS, hP, hM, hX, hY, hT, hZ, hU, hQ, dr, bI, bs, hV, ei⟩)
  ·skip
   refine eJ (by rfl) 57 rfl bu b6 ?_
   intro gQ p9 J aa I
   have dr := ge hB J
   have bI := ne hX J
   have bs := ne hZ J
   (try replace hV := mv I hV)
   (try replace ei := mv I ei)
   replace hB := mv I hB
   replace hF := mv I hF
   replace hG := mv I hG
   replace hS := mv I hS
   replace hP := mv I hP
   replace hM := mv I hM
   replace hX := mv I hX
   replace hY := mv I hY
   replace hT := mv I hT
   replace hZ := mv I hZ
   replace hU := mv I hU
   have hQ := ak aa
   clear J aa I
   refine kn hK ⟨hX.out, hT.out⟩ (fun hHeld => ?_)
   clear hK K
   refine on 5 ag.out (fun K hK => ?_)
   refine gs Try.func50 #[.agg #[.string a.f0, .string a.f1]] (lF a _) ?_
   rintro e V5 ⟨rfl, I⟩
   refine ⟨_, rfl, ?_⟩
   (try replace hV := mv I hV); (try replace ei := mv I ei); (try replace hQ := mv I hQ); replace hB := mv I hB; replace hF := mv I hF; replace hG := mv I hG; replace hS := mv I hS; replace hP := mv I hP; replace hM := mv I hM; replace hX := mv I hX; replace hY := mv I hY; replace hT := mv I hT; replace hZ := mv I hZ; replace hU := mv I hU; clear  I
   refine kn hK ⟨hX.out, hT.out⟩ (fun hHeld => ?_)
   clear hK K
   refine on 6 ag.out (fun K hK => ?_)
   refine gs Try.func49 #[.agg (bk b.addr b.aff b.slots (.slice Af b.free.length cf) (.slice Aa b.attrs.length ca)).toArray, .int .i64 n, fv (cv a)] (HBL.out _ _ ⟨_, _, _, _, rfl, ⟨HL.out, (rr hF).1, (rr hF).2, (rr hG).1, (rr hG).2⟩⟩) ?_
   rintro e V6 ⟨v_, ml, rfl, bc, fM, I⟩
   refine ⟨_, rfl, ?_⟩
   have hV := ak (bc.lower (lb HBASE hB)); have ei := ak (Kd.R_lower fM (lb HBASE hB)); (try replace hQ := mv I hQ); replace hB := mv I hB; replace hF := mv I hF; replace hG := mv I hG; replace hS := mv I hS; replace hP := mv I hP; replace hM := mv I hM; replace hX := mv I hX; replace hY := mv I hY; replace hT := mv I hT; replace hZ := mv I hZ; replace hU := mv I hU; clear bc fM I
   refine kn hK ⟨hX.out, hT.out⟩ (fun hHeld => ?_)
   clear hK K
   refine pu 7 ag.out ?_
   refine pu 8 ag.out ?_
   refine pu 9 ag.out ?_
   refine pu 10 ag.out ?_
   exact nc (fe ⟨gQ, v_, ml⟩ _ ⟨hB, hF, hG, hS, hP, hM, hX, hY, hT, hZ, hU, hQ, dr, bI, bs, hV, ei⟩)
 intro s w' hFF; obtain ⟨gQ, v_, ml⟩ := s; simp only at hFF; obtain ⟨hB, hF, hG, hS, hP, hM, hX, hY, hT, hZ, hU, hQ, dr, bI, bs, hV, ei⟩ := hFF; have bc := hV.out; obtain ⟨iZ, p6, p7, rfl, dM, ew⟩ := bc; obtain ⟨A8, c8, rfl⟩ := Kd.R_slice dM; obtain ⟨A9, c9, rfl⟩ := Kd.R_slice ew; obtain ⟨Ao, co, rfl⟩ := Kd.R_slice ei.out; have hC := ak dM; have hD := ak ew; have hO := ei; clear hV ei iZ dM ew
 refine nj ?_
 refine ow 12 ag.out (fun K hK => ?_)
 refine bS (by rfl) rfl 57 (.tmp 10) (.tmp 53) rfl gQ (bk nb.addr nb.aff nb.slots (.slice A8 nb.free.length c8) (.slice A9 nb.attrs.length c9)) rfl rfl 57 _ hQ.out 68 (by kernel_rfl) (ao _ _ _ _ _ HNL.out) rfl (cA _ _ _ _ _ rfl rfl) ?_
 intro Rk aa J; replace hB := gb hB dr J; replace hF := gr hF hQ J; replace hG := gr hG hQ J; replace hS := gr hS hQ J; replace hP := gr hP hQ J; replace hM := gr hM hQ J; replace hX := gn hX bI J; replace hY := gx hY hQ J; replace hT := gx hT hQ J; replace hZ := gn hZ bs J; replace hU := gx hU hQ J; replace hC := gr hC hQ J; replace hD := gr hD hQ J; replace hO := gr hO hQ J; replace hQ := ak (aa); clear aa J
 refine hK.out _ _ ⟨hX.out, hT.out⟩ (fun hHeld => ?_)
 clear hK K
 refine pu 13 ag.out ?_
 refine pu 14 ag.out ?_
 refine dn ag.out ?_
 clear hHeld
 have iK := hT.out.cell 1 _ rfl
 go_wp2_with (first
  | ((with_reducible refine aJ (N := 57) rfl ?_); refine fN rfl 76 (.tmp 56) rfl gT 2 rfl 79 _ [.string a.f0, .string a.f1] _ hT.out xv Try.underlying76 rfl (by kernel_rfl) ?_)
  | (go_at_call 60; refine (HMY.out _).mono ?_; rintro e sQ ⟨rfl, I⟩; have jB := mv I hB; have kg := mv I hF; have ke := mv I hG; have iV := mv I hS; have iW := mv I hP; have iX := mv I hM; have j8 := mv I hX; have iU := mv I hY; have oF := mv I hT; have j7 := mv I hZ; have j9 := mv I hU; have kb := mv I hQ; have kl := mv I hC; have kj := mv I hD; have tS := mv I hO; have DZ := oF.out.cell 1 _ rfl; clear I hB hF hG hS hP hM hX hY hT hZ hU hQ hC hD hO iK))
 clear DZ
 have aq : Below sQ.heap.size sQ sQ.drew := bL (Below.refl _ _)
 have jS := mv aq jB; have kf := mv aq kg; have kc := mv aq ke; have jy := mv aq iV; have jz := mv aq iW; have jA := mv aq iX; have jO := mv aq j8; have jg := mv aq iU; have rF := mv aq oF; have jN := mv aq j7; have jQ := mv aq j9; have jR := mv aq kb; have kk := mv aq kl; have ki := mv aq kj; have tR := mv aq tS
 clear aq jB kg ke iV iW iX j8 iU oF j7 j9 kb kl kj tS
 have hB := jS
 have hF := kf
 have hG := kc
 have hS := jy
 have hP := jz
 have hM := jA
 have hX := jO
 have hY := jg
 have hT := rF
 have hZ := jN
 have hU := jQ
 have hQ := jR
 have hC := kk
 have hD := ki
 have hO := tR
 clear jS kf kc jy jz jA jO jg rF jN jQ jR kk ki tR
 refine dR (n := 16) (S := fun w' => aX w' gX (bk b.addr b.aff b.slots (.slice Af b.free.length cf) (.slice Aa b.attrs.length ca)) 57 ∧ aX w' gY (dH b.addr b.aff (.slice As b.slots.length cs) (.slice Ap b.free.length cp) (.slice Am M.length cm)) 62 ∧ aX w' gQ (bk nb.addr nb.aff nb.slots (.slice A8 nb.free.length c8) (.slice A9 nb.attrs.length c9)) 57) (ds := []) #[false, false, false, false, false, false, false, false, false, false, false, false, false, false, false, false] (by kernel_rfl) rfl rfl ⟨hX.out, hY.out, hQ.out⟩ (fun hHeld => ?_); refine b5 uA.tab9 uA.bits9 (fun ag bM => ?_)
 refine tk 0 ag.out bM.out hHeld ?_ (hv := by exact fun _ bj => aY 57 (.tmp 3) rfl gX rfl _ _ _ bj.1 Try.underlying57 rfl HLB.out)
 refine tk 1 ag.out bM.out hHeld ?_ (hv := by exact fun _ bj => aY 62 (.tmp 4) rfl gY rfl _ _ _ bj.2.1 Try.underlying62 rfl (by kernel_rfl))
 refine pu 2 ag.out ?_
 refine pu 3 ag.out ?_
 refine pu 4 ag.out ?_
 refine tk 5 ag.out bM.out hHeld ?_ (hv := by exact fun _ bj => aY 57 (.tmp 10) rfl gQ rfl _ _ _ bj.2.2 Try.underlying57 rfl (HLN _ _ _ _))
 refine on 6 ag.out (fun K hK => ?_)
 refine gs Try.func43 #[.agg (bk nb.addr nb.aff nb.slots (.slice A8 nb.free.length c8) (.slice A9 nb.attrs.length c9)).toArray] (HZR.out _ _ ⟨_, _, _, _, rfl, ⟨HNL.out, (rr hC).1, (rr hC).2, (rr hD).1, (rr hD).2⟩⟩) ?_
 rintro e V6 ⟨rfl, I⟩
 refine ⟨_, rfl, ?_⟩
 replace hB := mv I hB; replace hF := mv I hF; replace hG := mv I hG; replace hS := mv I hS; replace hP := mv I hP; replace hM := mv I hM; replace hX := mv I hX; replace hY := mv I hY; replace hT := mv I hT; replace hZ := mv I hZ; replace hU := mv I hU; replace hQ := mv I hQ; replace hC := mv I hC; replace hD := mv I hD; replace hO := mv I hO
 refine kn hK ⟨hX.out, hY.out, hQ.out⟩ (fun hHeld => ?_)
 clear hK K
 refine pu 7 ag.out ?_
 refine pu 8 ag.out ?_
 refine pu 9 ag.out ?_
 refine pu 10 ag.out ?_
 refine pu 11 ag.out ?_
 refine pu 12 ag.out ?_
 refine ow 13 ag.out (fun K hK => ?_)
 refine bS (by rfl) rfl 57 (.tmp 6) (.tmp 65) rfl gZ (bk b.addr b.aff b.slots (.slice Af b.free.length cf) (.slice Aa b.attrs.length ca)) rfl rfl 57 _ hZ.out 68 (by kernel_rfl) (ao _ _ _ _ _ HL.out) rfl (cA _ _ _ _ _ rfl rfl) ?_
 intro Z6 aa J; replace hB := gb hB ct J; replace hF := gr hF hZ J; replace hG := gr hG hZ J; replace hS := gr hS hZ J; replace hP := gr hP hZ J; replace hM := gr hM hZ J; replace hX := gn hX aU J; replace hY := gx hY hZ J; replace hT := gx hT hZ J; replace hU := gx hU hZ J; replace hQ := gm hQ bs J; replace hC := gr hC hZ J; replace hD := gr hD hZ J; replace hO := gr hO hZ J; replace hZ := ak (aa); clear aa J
 refine hK.out _ _ ⟨hX.out, hY.out, hQ.out⟩ (fun hHeld => ?_)
 clear hK K
 refine ow 14 ag.out (fun K hK => ?_)
 refine bS (by rfl) rfl 62 (.tmp 7) (.tmp 66) rfl gU (dH b.addr b.aff (.slice As b.slots.length cs) (.slice Ap b.free.length cp) (.slice Am M.length cm)) rfl rfl 62 _ hU.out 5 (by kernel_rfl) rfl rfl (et _ _ rfl rfl rfl) ?_
 intro Z5 aa J; replace hB := gb hB fR J; replace hF := gr hF hU J; replace hG := gr hG hU J; replace hS := gr hS hU J; replace hP := gr hP hU J; replace hM := gr hM hU J; replace hX := gx hX hU J; replace hY := gn hY dO J; replace hT := gx hT hU J; replace hZ := gx hZ hU J; replace hQ := gx hQ hU J; replace hC := gr hC hU J; replace hD := gr hD hU J; replace hO := gr hO hU J; replace hU := ak (aa); clear aa J
 refine hK.out _ _ ⟨hX.out, hY.out, hQ.out⟩ (fun hHeld => ?_)
 clear hK K
 refine pu 15 ag.out ?_
 refine dn ag.out ?_
 clear hHeld
 go_wp2_with fail
 refine bodyPost_ret (fD rfl _ _ _ gZ gU 57 62 _ _ _ _ rfl hZ.out rfl Try.underlying57 (by first | exact HLB.out | exact HLN _ _ _ _) rfl hU.out rfl Try.underlying62 (by kernel_rfl)) rfl ⟨_, _, b, rfl, ?_, ?_, ?_, hB.out⟩
 ·exact HG.out
 ·exact ⟨HL.out, _, _, rfl, hF.out, hG.out⟩
 ·exact ⟨_, _, _, rfl, hS.out, hP.out, by rw [← HM.out]; exact hM.out⟩
set_option maxHeartbeats 16000000 in
set_option maxRecDepth 100000 in
theorem Q6 (b : Bk) (hg : RG b) (kd : Int) (hkd : kd = 0 ∨ kd = 1) (n : Int) (hn : n < 9223372036854775808) (a : lN) (fE : a.f0.size ≤ 9223372036854775807) (gh : a.f1.size ≤ 9223372036854775807) (l : List Int) (hu : ∀ x ∈ l, 0 ≤ x ∧ x < 4294967296) (hlm : l.length ≤ 9223372036854775807) (Al : Option Addr) (cl : Nat) (hcl : l.length ≤ cl) (aff : ByteArray) (hza : aff.size ≤ 9223372036854775807) (hma : fj (cv a) = true) (n5 : 0 ≤ n) (v v2 : Value) (w : World) (base : Nat) (hbase : base ≤ w.heap.size) (hO : eP w base v b) (hR : fw w base v2 b) (hC : Kd.C (Kd.int .u32) w Al l.length l) :
  Calls Try.prog 47 #[v, v2, .agg #[.int .i64 kd, .int .i64 n, .string a.f0, .string a.f1, .slice Al l.length cl, .string aff]] w fun e w' => ∃ v1 v2 b', e = .returned (.tuple #[v1, v2, .bool true]) ∧ RG b' ∧ eP w' base v1 b' ∧ fw w' base v2 b' ∧ Below w.heap.size w w' := by
 obtain ⟨hl, vf, va, rfl, hf, ha⟩ := hO
 obtain ⟨vs, vp, vm, rfl, hs, hp, hm⟩ := hR
 obtain ⟨Af, cf, rfl⟩ := Kd.R_slice hf
 obtain ⟨Aa, ca, rfl⟩ := Kd.R_slice ha
 obtain ⟨As, cs, rfl⟩ := Kd.R_slice hs
 obtain ⟨Ap, cp, rfl⟩ := Kd.R_slice hp
 obtain ⟨M, hM⟩ : ∃ M, M = b.attrs.map vc := ⟨_, rfl⟩
 rw [← hM] at hm
 obtain ⟨Am, cm, rfl⟩ := Kd.R_slice hm
 have HL := ak hl
 have HM := ak hM
 have bU := ak hf
 have eT := ak ha
 have bl := ak hs
 have eR := ak hp
 have cb := ak hm
 have HG := ak hg
 have an := ak (Below.refl w.heap.size w)
 have HBASE := ak hbase
 have HLB := ak (dc (bk b.addr b.aff b.slots (.slice Af b.free.length cf) (.slice Aa b.attrs.length ca)) (ao _ _ _ _ _ HL.out))
 obtain ⟨lt, hlt⟩ : ∃ lt, lt = l.take 80 := ⟨_, rfl⟩
 have hut : ∀ x ∈ lt, 0 ≤ x ∧ x < 4294967296 := fun x hx => hu x (by rw [hlt] at hx; exact List.mem_of_mem_take hx)
 have hll : lt.length = min 80 l.length := by rw [hlt, List.length_take]
 have HCL := ak hcl
 have HLL := ak hll
 have HC := ak hC
 have HCT := ak (fun W (I : Below w.heap.size w W) => (show Kd.C (Kd.int .u32) W Al lt.length lt by
  rcases Nat.lt_or_ge 80 l.length with h | h
  ·have h_ := Kd.C_take (m := 80) (Kd.C_below hC I) (by omega)
   rw [← hlt] at h_
   exact h_
  ·have h_ := Kd.C_below hC I
   have e : lt = l := by rw [hlt, List.take_of_length_le h]
   rw [e]
   exact h_))
 have hbl := fun v w h => rA b hg.ok n hn (cv a) v w h
 have hok : mX b n (cv a) = true := by unfold mX; rw [hma, hg.right, decide_eq_true n5]; rfl
 rw [hok] at hbl
 simp only [if_true] at hbl
 have HMY := ak (fun w => sw a fE gh w)
 rw [hma] at HMY
 have n0 : decide (n < 0) = false := by simp; omega
 have hp := jD hg.right
 have hrl := fun v w h0 h => Fw b hg.ok hp hl n hn n5 (min n.toNat b.free.length) rfl (cv a) v w base h0 h
 have hrg := hg.asg (cv a) hma (min n.toNat b.free.length) (Nat.min_le_right _ _)
 obtain ⟨nb, hnb⟩ : ∃ nb, nb = fF b (min n.toNat b.free.length) (cv a) := ⟨_, rfl⟩
 obtain ⟨oo, hoo⟩ : ∃ oo, oo = fU b (min n.toNat b.free.length) := ⟨_, rfl⟩
 rw [← hnb, ← hoo] at hbl hrl
 rw [← hnb] at hrg
 have hol : oo.length ≤ 1000 := by rw [hoo]; rw [jr _ _ (Nat.min_le_right _ _)]; have := hg.sum; omega
 have HRG := ak hrg
 have HNL := ak hrg.l64
 have HOL := ak hol
 have HLN := fun A8 c8 A9 c9 => dc (bk nb.addr nb.aff nb.slots (.slice A8 nb.free.length c8) (.slice A9 nb.attrs.length c9)) (ao _ _ _ _ _ HNL.out)
 have HBL := ak hbl
 have HRL := ak hrl
 clear hrg hbl hrl hol hnb hoo hp hma hok n5
 have HKD := ak hkd
 clear hkd
 clear hl hM hf ha hs hp hm hbase hC hu hut hll hcl hlt hg
 go_enter Try.func47, Try.ntmps47
 go_upto_if 37 with (first
  | (refine aV rfl 57 (.tmp 0) rfl _ rfl ?_; intro gX W1 J aa I; have cw := ge an J; have aA := ak (an.out.trans (I.mono an.out.size)); have bJ := mv I bU; have ea := mv I eT; have bC := mv I bl; have ee := mv I eR; have b7 := mv I cb; have au := ak (aa); clear J aa I an bU eT bl eR cb)
  | (refine aV rfl 62 (.tmp 1) rfl _ rfl ?_; intro gY W2 J aa I; have jT := ge aA J; have gC := ne au J; have aK := mv I aA; have ch := mv I bJ; have er := mv I ea; have b4 := mv I bC; have ej := mv I ee; have dm := mv I b7; have aI := mv I au; have dk := ak (aa); clear J aa I aA bJ ea bC ee b7 au)
  | (refine aV rfl 79 (.tmp 2) rfl _ rfl ?_; intro gT W3 J aa I; have ld := ge aK J; have iL := ne aI J; have jf := ne dk J; have aT := mv I aK; have cW := mv I ch; have eG := mv I er; have cH := mv I b4; have eN := mv I ej; have dT := mv I dm; have aQ := mv I aI; have dj := mv I dk; have ey := ak (aa); clear J aa I aK ch er b4 ej dm aI dk)
  | (refine aH (some 6) rfl rfl 57 rfl bu b6 ?_; intro gZ W4 J aa I; have ct := ge aT J; have aU := ne aQ J; have gS := ne dj J; have ky := ne ey J; have bq := mv I aT; have cU := mv I cW; have eo := mv I eG; have dC := mv I cH; have fg := mv I eN; have dZ := mv I dT; have bg := mv I aQ; have di := mv I dj; have eF := mv I ey; have bB := ak (aa); clear J aa I aT cW eG cH eN dT aQ dj ey)
  | (refine aH (some 7) rfl rfl 62 rfl dW (fun _ => by kernel_rfl) ?_; intro gU W5 J aa I; have fR := ge bq J; have ig := ne bg J; have dO := ne di J; have jI := ne eF J; have iA := ne bB J; have bE := mv I bq; have cQ := mv I cU; have dJ := mv I eo; have dG := mv I dC; have eV := mv I fg; have dw := mv I dZ; have bz := mv I bg; have dY := mv I di; have bQ := mv I eF; have bY := mv I bB; have ff := ak (aa); have kt := bQ.out.cell 0 _ rfl; have iK := bQ.out.cell 1 _ rfl; have ks := bQ.out.cell 2 _ rfl; have kr := bQ.out.cell 3 _ rfl; have kp := bQ.out.cell 4 _ rfl; have ix := bQ.out.cell 5 _ rfl; clear J aa I bq cU eo dC fg dZ bg di eF bB))
 go_cut [9] from 38 to 39 (fun s9 wx => s9 = .slice Al lt.length cl ∧ W5 = wx)
 case first =>
  rcases Nat.lt_or_ge 80 l.length with mA | mA
  ·have mz : decide ((80 : Int) < (l.length : Int)) = true := by simp; omega
   have wI : (((0 : Int) ≤ 80 ∧ (80 : Int) ≤ (cl : Int)) = True) := eq_true ⟨by omega, by have := HCL.out; omega⟩
   have wH : (((80 : Int) ≤ (cl : Int)) = True) := eq_true (by have := HCL.out; omega)
   go_wp2_with fail
   go_meet
   exact ⟨by rw [HLL.out, Nat.min_eq_left (by omega)], rfl⟩
  ·have mz : decide ((80 : Int) < (l.length : Int)) = false := by simp; omega
   go_wp2_with fail
   go_meet
   exact ⟨by rw [HLL.out, Nat.min_eq_right (by omega)], rfl⟩
 case rest =>
 obtain ⟨ic, ib⟩ := hcut
 subst ic
 subst ib
 go_upto_if 42 with fail
 go_cut [42] from 43 to 44 (fun vR wx => vR = .bool true ∧ W5 = wx)
 case first =>
  rcases HKD.out with dS | dS
  ·skip
   have Ck : (kd = 0) = True := eq_true (by omega)
   have II : decide (kd = 0) = true := by simp; omega
   have Iw : (kd == 0) = true := by simp; omega
   clear dS
   go_wp2_with fail
   go_meet
   exact ⟨by first | rfl | simp [Ck], rfl⟩
  ·skip
   have Ck : (kd = 0) = False := eq_false (by omega)
   have II : decide (kd = 0) = false := by simp; omega
   have Iw : (kd == 0) = false := by simp; omega
   have xh : (kd = 1) = True := eq_true (by omega)
   have TE : decide (kd = 1) = true := by simp; omega
   have TB : (kd == 1) = true := by simp; omega
   clear dS
   go_wp2_with fail
   go_meet
   exact ⟨by first | rfl | simp [xh], rfl⟩
 case rest =>
 obtain ⟨ic, ib⟩ := hcut
 subst ic
 subst ib
 go_wp2_with fail
 have aq : Below W5.heap.size W5 W5.drew := bL (Below.refl _ _)
 have bZ := mv aq bE; have dD := mv aq cQ; have ef := mv aq dJ; have dN := mv aq dG; have eU := mv aq eV; have ez := mv aq dw; have bH := mv aq bz; have du := mv aq dY; have fJ := mv aq bQ; have cn := mv aq bY; have dI := mv aq ff
 clear aq bE cQ dJ dG eV dw bz dY bQ bY ff kt iK ks kr kp ix
 have hB := bZ
 have hF := dD
 have hG := ef
 have hS := dN
 have hP := eU
 have hM := ez
 have hX := bH
 have hY := du
 have hT := fJ
 have hZ := cn
 have hU := dI
 clear bZ dD ef dN eU ez bH du fJ cn dI
 refine dR (n := 15) (S := fun w' => aX w' gX (bk b.addr b.aff b.slots (.slice Af b.free.length cf) (.slice Aa b.attrs.length ca)) 57 ∧ aX w' gT [.int .i64 kd, .int .i64 n, .string a.f0, .string a.f1, .slice Al l.length cl, .string aff] 79) (ds := []) #[false, false, false, false, false, false, false, false, false, false, false, false, false, false, false] (by kernel_rfl) rfl rfl ⟨hX.out, hT.out⟩ (fun hHeld => ?_); refine b5 qY.tab7 qY.bits7 (fun ag bM => ?_)
 refine tk 0 ag.out bM.out hHeld ?_ (hv := by exact fun _ bj => aY 57 (.tmp 3) rfl gX rfl _ _ _ bj.1 Try.underlying57 rfl HLB.out)
 refine pu 1 ag.out ?_
 refine tk 2 ag.out bM.out hHeld ?_ (hv := by intro w' bj; have Gc := bj.2.cell 1 _ rfl; go_simp; with_reducible rfl)
 refine pu 3 ag.out ?_
 refine tk 4 ag.out bM.out hHeld ?_ (hv := by exact fun _ bj => pg 76 (.tmp 49) rfl gT 2 rfl _ _ [.string a.f0, .string a.f1] _ bj.2 xv Try.underlying76 rfl (by kernel_rfl))
 refine ru (σ := Nat × Value × Value) 3 #[true, true, true, true, true, true, true, true, true, true, true, true, false, false, false] (fun s => [(51, fv (cv a)), (52, .tuple #[s.2.1, s.2.2, .int .i64 0]), (45, .tuple #[s.2.1, s.2.2, .int .i64 0]), (53, s.2.1), (54, s.2.2), (55, .int .i64 0), (10, .pointer (some ⟨s.1, 0, none⟩))]) (fun s w' => Aside0 (Below w.heap.size w w') ∧ Aside0 (Kd.R (Kd.int .u8) 5 w' base (fun _ => True) (.slice Af b.free.length cf) b.free) ∧ Aside0 (Kd.R lf 85 w' base (fun _ => True) (.slice Aa b.attrs.length ca) b.attrs) ∧ Aside0 (Kd.R (Kd.int .i64) 3 w' base (fun _ => True) (.slice As b.slots.length cs) b.slots) ∧ Aside0 (Kd.R (Kd.int .i64) 3 w' base (fun _ => True) (.slice Ap b.free.length cp) b.free) ∧ Aside0 (Kd.R ia 76 w' base (fun _ => True) (.slice Am M.length cm) M) ∧ Aside0 (aX w' gX (bk b.addr b.aff b.slots (.slice Af b.free.length cf) (.slice Aa b.attrs.length ca)) 57) ∧ Aside0 (aX w' gY (dH b.addr b.aff (.slice As b.slots.length cs) (.slice Ap b.free.length cp) (.slice Am M.length cm)) 62) ∧ Aside0 (aX w' gT [.int .i64 kd, .int .i64 n, .string a.f0, .string a.f1, .slice Al l.length cl, .string aff] 79) ∧ Aside0 (aX w' gZ bu 57) ∧ Aside0 (aX w' gU dW 62) ∧ Aside0 (aX w' s.1 bu 57) ∧ Aside0 (w.heap.size ≤ s.1) ∧ Aside0 (gX ≠ s.1) ∧ Aside0 (gZ ≠ s.1) ∧ Aside0 (eP w' base s.2.1 nb) ∧ Aside0 (Kd.R (Kd.int .u32) 46 w' base (fun _ => True) s.2.2 oo)) ?_ ?_
 rotate_left
 ·intro fe
  refine tw 5 11 ag.out (fun K hK => ?_) (fun K hK => ?_)
  ·skip
   refine gs Try.func50 #[.agg #[.string a.f0, .string a.f1]] (lF a _) ?_
   rintro e V5 ⟨rfl, I⟩
   refine ⟨_, rfl, ?_⟩
   (try replace hV := mv I hV); (try replace ei := mv I ei); (try replace hQ := mv I hQ); replace hB := mv I hB; replace hF := mv I hF; replace hG := mv I hG; replace hS := mv I hS; replace hP := mv I hP; replace hM := mv I hM; replace hX := mv I hX; replace hY := mv I hY; replace hT := mv I hT; replace hZ := mv I hZ; replace hU := mv I hU; clear  I
   refine kn hK ⟨hX.out, hT.out⟩ (fun hHeld => ?_)
   clear hK K
   refine tw 6 11 ag.out (fun K hK => ?_) (fun K hK => ?_)
   ·skip
    refine gs Try.func49 #[.agg (bk b.addr b.aff b.slots (.slice Af b.free.length cf) (.slice Aa b.attrs.length ca)).toArray, .int .i64 n, fv (cv a)] (HBL.out _ _ ⟨_, _, _, _, rfl, ⟨HL.out, (rr hF).1, (rr hF).2, (rr hG).1, (rr hG).2⟩⟩) ?_
    rintro e V6 ⟨v_, ml, rfl, bc, fM, I⟩
    refine ⟨_, rfl, ?_⟩
    have hV := ak (bc.lower (lb HBASE hB)); have ei := ak (Kd.R_lower fM (lb HBASE hB)); (try replace hQ := mv I hQ); replace hB := mv I hB; replace hF := mv I hF; replace hG := mv I hG; replace hS := mv I hS; replace hP := mv I hP; replace hM := mv I hM; replace hX := mv I hX; replace hY := mv I hY; replace hT := mv I hT; replace hZ := mv I hZ; replace hU := mv I hU; clear bc fM I
    refine kn hK ⟨hX.out, hT.out⟩ (fun hHeld => ?_)
    clear hK K
    refine pu 7 ag.out ?_
    refine pu 8 ag.out ?_
    refine pu 9 ag.out ?_
    refine pu 10 ag.out ?_
    refine on 11 ag.out (fun K hK => ?_)
    refine eJ (by rfl) 57 rfl bu b6 ?_
    intro gQ p9 J aa I
    have dr := ge hB J
    have bI := ne hX J
    have bs := ne hZ J
    (try replace hV := mv I hV)
    (try replace ei := mv I ei)
    replace hB := mv I hB
    replace hF := mv I hF
    replace hG := mv I hG
    replace hS := mv I hS
    replace hP := mv I hP
    replace hM := mv I hM
    replace hX := mv I hX
    replace hY := mv I hY
    replace hT := mv I hT
    replace hZ := mv I hZ
    replace hU := mv I hU
    have hQ := ak aa
    clear J aa I
    refine kn hK ⟨hX.out, hT.out⟩ (fun hHeld => ?_)
    clear hK K
    exact nc (fe ⟨gQ, v_, ml⟩ _ ⟨hB, hF, hG, hS, hP, hM, hX, hY, hT, hZ, hU, hQ, dr, bI, bs, hV, ei⟩)
   ·skip
    refine eJ (by rfl) 57 rfl bu b6 ?_
    intro gQ p9 J aa I
    have dr := ge hB J
    have bI := ne hX J
    have bs := ne hZ J
    (try replace hV := mv I hV)
    (try replace ei := mv I ei)
    replace hB := mv I hB
    replace hF := mv I hF
    replace hG := mv I hG
    replace hS := mv I hS
    replace hP := mv I hP
    replace hM := mv I hM
    replace hX := mv I hX
    replace hY := mv I hY
    replace hT := mv I hT
    replace hZ := mv I hZ
    replace hU := mv I hU
    have hQ := ak aa
    clear J aa I
    refine kn hK ⟨hX.out, hT.out⟩ (fun hHeld => ?_)
    clear hK K
    refine on 6 ag.out (fun K hK => ?_)
    refine gs Try.func49 #[.agg (bk b.addr b.aff b.slots (.slice Af b.free.length cf) (.slice Aa b.attrs.length ca)).toArray, .int .i64 n, fv (cv a)] (HBL.out _ _ ⟨_, _, _, _, rfl, ⟨HL.out, (rr hF).1, (rr hF).2, (rr hG).1, (rr hG).2⟩⟩) ?_
    rintro e V6 ⟨v_, ml, rfl, bc, fM, I⟩
    refine ⟨_, rfl, ?_⟩
    have hV := ak (bc.lower (lb HBASE hB)); have ei := ak (Kd.R_lower fM (lb HBASE hB)); (try replace hQ := mv I hQ); replace hB := mv I hB; replace hF := mv I hF; replace hG := mv I hG; replace hS := mv I hS; replace hP := mv I hP; replace hM := mv I hM; replace hX := mv I hX; replace hY := mv I hY; replace hT := mv I hT; replace hZ := mv I hZ; replace hU := mv I hU; clear bc fM I
    refine kn hK ⟨hX.out, hT.out⟩ (fun hHeld => ?_)
    clear hK K
    refine pu 7 ag.out ?_
    refine pu 8 ag.out ?_
    refine pu 9 ag.out ?_
    refine pu 10 ag.out ?_
    exact nc (fe ⟨gQ, v_, ml⟩ _ ⟨hB, hF, hG, hS, hP, hM, hX, hY, hT, hZ, hU, hQ, dr, bI, bs, hV, ei⟩)
  ·skip
   refine eJ (by rfl) 57 rfl bu b6 ?_
   intro gQ p9 J aa I
   have dr := ge hB J
   have bI := ne hX J
   have bs := ne hZ J
   (try replace hV := mv I hV)
   (try replace ei := mv I ei)
   replace hB := mv I hB
   replace hF := mv I hF
   replace hG := mv I hG
   replace hS := mv I hS
   replace hP := mv I hP
   replace hM := mv I hM
   replace hX := mv I hX
   replace hY := mv I hY
   replace hT := mv I hT
   replace hZ := mv I hZ
   replace hU := mv I hU
   have hQ := ak aa
   clear J aa I
   refine kn hK ⟨hX.out, hT.out⟩ (fun hHeld => ?_)
   clear hK K
   refine on 5 ag.out (fun K hK => ?_)
   refine gs Try.func50 #[.agg #[.string a.f0, .string a.f1]] (lF a _) ?_
   rintro e V5 ⟨rfl, I⟩
   refine ⟨_, rfl, ?_⟩
   (try replace hV := mv I hV); (try replace ei := mv I ei); (try replace hQ := mv I hQ); replace hB := mv I hB; replace hF := mv I hF; replace hG := mv I hG; replace hS := mv I hS; replace hP := mv I hP; replace hM := mv I hM; replace hX := mv I hX; replace hY := mv I hY; replace hT := mv I hT; replace hZ := mv I hZ; replace hU := mv I hU; clear  I
   refine kn hK ⟨hX.out, hT.out⟩ (fun hHeld => ?_)
   clear hK K
   refine on 6 ag.out (fun K hK => ?_)
   refine gs Try.func49 #[.agg (bk b.addr b.aff b.slots (.slice Af b.free.length cf) (.slice Aa b.attrs.length ca)).toArray, .int .i64 n, fv (cv a)] (HBL.out _ _ ⟨_, _, _, _, rfl, ⟨HL.out, (rr hF).1, (rr hF).2, (rr hG).1, (rr hG).2⟩⟩) ?_
   rintro e V6 ⟨v_, ml, rfl, bc, fM, I⟩
   refine ⟨_, rfl, ?_⟩
   have hV := ak (bc.lower (lb HBASE hB)); have ei := ak (Kd.R_lower fM (lb HBASE hB)); (try replace hQ := mv I hQ); replace hB := mv I hB; replace hF := mv I hF; replace hG := mv I hG; replace hS := mv I hS; replace hP := mv I hP; replace hM := mv I hM; replace hX := mv I hX; replace hY := mv I hY; replace hT := mv I hT; replace hZ := mv I hZ; replace hU := mv I hU; clear bc fM I
   refine kn hK ⟨hX.out, hT.out⟩ (fun hHeld => ?_)
   clear hK K
   refine pu 7 ag.out ?_
   refine pu 8 ag.out ?_
   refine pu 9 ag.out ?_
   refine pu 10 ag.out ?_
   exact nc (fe ⟨gQ, v_, ml⟩ _ ⟨hB, hF, hG, hS, hP, hM, hX, hY, hT, hZ, hU, hQ, dr, bI, bs, hV, ei⟩)
 intro s w' hFF; obtain ⟨gQ, v_, ml⟩ := s; simp only at hFF; obtain ⟨hB, hF, hG, hS, hP, hM, hX, hY, hT, hZ, hU, hQ, dr, bI, bs, hV, ei⟩ := hFF; have bc := hV.out; obtain ⟨iZ, p6, p7, rfl, dM, ew⟩ := bc; obtain ⟨A8, c8, rfl⟩ := Kd.R_slice dM; obtain ⟨A9, c9, rfl⟩ := Kd.R_slice ew; obtain ⟨Ao, co, rfl⟩ := Kd.R_slice ei.out; have hC := ak dM; have hD := ak ew; have hO := ei; clear hV ei iZ dM ew
 refine nj ?_
 refine ow 12 ag.out (fun K hK => ?_)
 refine bS (by rfl) rfl 57 (.tmp 10) (.tmp 53) rfl gQ (bk nb.addr nb.aff nb.slots (.slice A8 nb.free.length c8) (.slice A9 nb.attrs.length c9)) rfl rfl 57 _ hQ.out 68 (by kernel_rfl) (ao _ _ _ _ _ HNL.out) rfl (cA _ _ _ _ _ rfl rfl) ?_
 intro Rk aa J; replace hB := gb hB dr J; replace hF := gr hF hQ J; replace hG := gr hG hQ J; replace hS := gr hS hQ J; replace hP := gr hP hQ J; replace hM := gr hM hQ J; replace hX := gn hX bI J; replace hY := gx hY hQ J; replace hT := gx hT hQ J; replace hZ := gn hZ bs J; replace hU := gx hU hQ J; replace hC := gr hC hQ J; replace hD := gr hD hQ J; replace hO := gr hO hQ J; replace hQ := ak (aa); clear aa J
 refine hK.out _ _ ⟨hX.out, hT.out⟩ (fun hHeld => ?_)
 clear hK K
 refine pu 13 ag.out ?_
 refine pu 14 ag.out ?_
 refine dn ag.out ?_
 clear hHeld
 have iK := hT.out.cell 1 _ rfl
 go_wp2_with (first
  | ((with_reducible refine aJ (N := 57) rfl ?_); refine fN rfl 76 (.tmp 56) rfl gT 2 rfl 79 _ [.string a.f0, .string a.f1] _ hT.out xv Try.underlying76 rfl (by kernel_rfl) ?_)
  | (go_at_call 60; refine (HMY.out _).mono ?_; rintro e sQ ⟨rfl, I⟩; have jB := mv I hB; have kg := mv I hF; have ke := mv I hG; have iV := mv I hS; have iW := mv I hP; have iX := mv I hM; have j8 := mv I hX; have iU := mv I hY; have oF := mv I hT; have j7 := mv I hZ; have j9 := mv I hU; have kb := mv I hQ; have kl := mv I hC; have kj := mv I hD; have tS := mv I hO; have DZ := oF.out.cell 1 _ rfl; clear I hB hF hG hS hP hM hX hY hT hZ hU hQ hC hD hO iK)
  | ((with_reducible refine aJ (N := 83) rfl ?_); refine fN rfl 76 (.tmp 82) rfl gT 2 rfl 79 _ [.string a.f0, .string a.f1] _ oF.out xv Try.underlying76 rfl (by kernel_rfl) ?_)
  | ((with_reducible refine aJ (N := 79) rfl ?_); refine aN rfl 62 (.tmp 4) rfl gY rfl _ _ _ iU.out Try.underlying62 rfl 5 (by kernel_rfl) rfl ?_)
  | (go_at_call 82; refine (HRL.out _ _ (lb HBASE jB) ⟨_, _, _, rfl, iV.out, iW.out, by rw [← HM.out]; exact iX.out⟩).mono ?_; rintro e Gw ⟨v9, rR, rfl, fS, mr, I⟩; have HSZ := ak (lb HBASE jB); obtain ⟨wZ, sZ, ta, rfl, ie, fP, fi⟩ := fS; obtain ⟨A1, c1, rfl⟩ := Kd.R_slice ie; obtain ⟨A2, c2, rfl⟩ := Kd.R_slice fP; obtain ⟨NM, hNM⟩ : ∃ NM, NM = nb.attrs.map vc := ⟨_, rfl⟩; rw [← hNM] at fi; have HNM := ak hNM; obtain ⟨A3, c3, rfl⟩ := Kd.R_slice fi; obtain ⟨Fg, EE, rfl⟩ := Kd.R_slice mr; have jS := mv I jB; have kf := mv I kg; have kc := mv I ke; have jy := mv I iV; have jz := mv I iW; have jA := mv I iX; have jO := mv I j8; have jg := mv I iU; have rF := mv I oF; have jN := mv I j7; have jQ := mv I j9; have jR := mv I kb; have kk := mv I kl; have ki := mv I kj; have tR := mv I tS; have MN := ak (ie); have MG := ak (fP); have Nv := ak (fi); have JL := ak (Kd.R_lower mr HSZ.out); clear HSZ hNM ie fP fi mr I jB kg ke iV iW iX j8 iU oF j7 j9 kb kl kj tS DZ)
  | (refine aH (some 13) rfl rfl 62 rfl dW (fun _ => by kernel_rfl) ?_; intro gV TT J aa I; have dQ := ge jS J; have fL := ne jO J; have fp := ne jg J; have sR := ne rF J; have kU := ne jN J; have eO := ne jQ J; have wk := ne jR J; have nX := mv I jS; have pU := mv I kf; have pT := mv I kc; have pO := mv I jy; have pR := mv I jz; have pS := mv I jA; have nT := mv I jO; have nS := mv I jg; have L8 := mv I rF; have nR := mv I jN; have nV := mv I jQ; have nW := mv I jR; have pY := mv I kk; have pW := mv I ki; have Mk := mv I tR; have MM := mv I MN; have MF := mv I MG; have Nu := mv I Nv; have JK := mv I JL; have k9 := ak (aa); clear J aa I jS kf kc jy jz jA jO jg rF jN jQ jR kk ki tR MN MG Nv JL)
  | (refine a7 rfl 62 (.tmp 13) (.tmp 85) rfl gV (dH nb.addr nb.aff (.slice A1 nb.slots.length c1) (.slice A2 nb.free.length c2) (.slice A3 NM.length c3)) rfl rfl 62 _ k9.out 5 (by kernel_rfl) rfl rfl (et _ _ rfl rfl rfl) ?_; intro JF aa J; have uo := gb nX dQ J; have ud := gr pU k9 J; have ua := gr pT k9 J; have tK := gr pO k9 J; have tP := gr pR k9 J; have tU := gr pS k9 J; have tF := gx nT k9 J; have tB := gn nS fp J; have L7 := gx L8 k9 J; have tv := gx nR k9 J; have tI := gn nV eO J; have tN := gx nW k9 J; have uj := gr pY k9 J; have ug := gr pW k9 J; have Mj := gr Mk k9 J; have ML := gr MM k9 J; have ME := gr MF k9 J; have Nt := gr Nu k9 J; have JJ := gr JK k9 J; have gK := ak (aa); clear aa J nX pU pT pO pR pS nT nS L8 nR nV nW pY pW Mk MM MF Nu JK k9))
 have aq : Below JF.heap.size JF JF.drew := bL (Below.refl _ _)
 have um := mv aq uo; have uc := mv aq ud; have tZ := mv aq ua; have tJ := mv aq tK; have tO := mv aq tP; have tT := mv aq tU; have tE := mv aq tF; have tA := mv aq tB; have L6 := mv aq L7; have tu := mv aq tv; have tH := mv aq tI; have tM := mv aq tN; have ui := mv aq uj; have uf := mv aq ug; have Mi := mv aq Mj; have MK := mv aq ML; have MD := mv aq ME; have Ns := mv aq Nt; have JI := mv aq JJ; have Da := mv aq gK
 clear aq uo ud ua tK tP tU tF tB L7 tv tI tN uj ug Mj ML ME Nt JJ gK
 have hB := um
 have hF := uc
 have hG := tZ
 have hS := tJ
 have hP := tO
 have hM := tT
 have hX := tE
 have hY := tA
 have hT := L6
 have hZ := tu
 have hU := tH
 have hQ := tM
 have hC := ui
 have hD := uf
 have hO := Mi
 have hI := MK
 have hJ := MD
 have hE := Ns
 have iw := JI
 have hV := Da
 clear um uc tZ tJ tO tT tE tA L6 tu tH tM ui uf Mi MK MD Ns JI Da
 refine dR (n := 12) (S := fun w' => aX w' gQ (bk nb.addr nb.aff nb.slots (.slice A8 nb.free.length c8) (.slice A9 nb.attrs.length c9)) 57 ∧ aX w' gV (dH nb.addr nb.aff (.slice A1 nb.slots.length c1) (.slice A2 nb.free.length c2) (.slice A3 NM.length c3)) 62) (ds := []) #[false, false, false, false, false, false, false, false, false, false, false, false] (by kernel_rfl) rfl rfl ⟨hQ.out, hV.out⟩ (fun hHeld => ?_); refine b5 tn.tab11 tn.bits11 (fun ag bM => ?_)
 refine tk 0 ag.out bM.out hHeld ?_ (hv := by exact fun _ bj => aY 57 (.tmp 10) rfl gQ rfl _ _ _ bj.1 Try.underlying57 rfl (HLN _ _ _ _))
 refine tk 1 ag.out bM.out hHeld ?_ (hv := by exact fun _ bj => aY 62 (.tmp 13) rfl gV rfl _ _ _ bj.2 Try.underlying62 rfl (by kernel_rfl))
 refine pu 2 ag.out ?_
 refine pu 3 ag.out ?_
 refine pu 4 ag.out ?_
 refine pu 5 ag.out ?_
 refine pu 6 ag.out ?_
 refine on 7 ag.out (fun K hK => ?_)
 refine gs Try.func61 #[(.slice Ao oo.length co), (.slice Fg oo.length EE)] (rB oo HOL.out _ _ _ _ _ (Kd.R_reads' hO.out).2.2 (Kd.R_reads' hO.out).2.1 (Kd.R_reads' iw.out).2.2 (Kd.R_reads' iw.out).2.1) ?_
 rintro e V7 ⟨rfl, I⟩
 refine ⟨_, rfl, ?_⟩
 replace hB := mv I hB; replace hF := mv I hF; replace hG := mv I hG; replace hS := mv I hS; replace hP := mv I hP; replace hM := mv I hM; replace hX := mv I hX; replace hY := mv I hY; replace hT := mv I hT; replace hZ := mv I hZ; replace hU := mv I hU; replace hQ := mv I hQ; replace hC := mv I hC; replace hD := mv I hD; replace hO := mv I hO; replace hI := mv I hI; replace hJ := mv I hJ; replace hE := mv I hE; replace iw := mv I iw; replace hV := mv I hV
 refine kn hK ⟨hQ.out, hV.out⟩ (fun hHeld => ?_)
 clear hK K
 refine pu 8 ag.out ?_
 refine ow 9 ag.out (fun K hK => ?_)
 refine bS (by rfl) rfl 57 (.tmp 6) (.tmp 87) rfl gZ (bk nb.addr nb.aff nb.slots (.slice A8 nb.free.length c8) (.slice A9 nb.attrs.length c9)) rfl rfl 57 _ hZ.out 68 (by kernel_rfl) (ao _ _ _ _ _ HNL.out) rfl (cA _ _ _ _ _ rfl rfl) ?_
 intro V9 aa J; replace hB := gb hB ct J; replace hF := gr hF hZ J; replace hG := gr hG hZ J; replace hS := gr hS hZ J; replace hP := gr hP hZ J; replace hM := gr hM hZ J; replace hX := gn hX aU J; replace hY := gx hY hZ J; replace hT := gx hT hZ J; replace hU := gx hU hZ J; replace hQ := gm hQ bs J; replace hC := gr hC hZ J; replace hD := gr hD hZ J; replace hO := gr hO hZ J; replace hI := gr hI hZ J; replace hJ := gr hJ hZ J; replace hE := gr hE hZ J; replace iw := gr iw hZ J; replace hV := gx hV hZ J; replace hZ := ak (aa); clear aa J
 refine hK.out _ _ ⟨hQ.out, hV.out⟩ (fun hHeld => ?_)
 clear hK K
 refine ow 10 ag.out (fun K hK => ?_)
 refine bS (by rfl) rfl 62 (.tmp 7) (.tmp 88) rfl gU (dH nb.addr nb.aff (.slice A1 nb.slots.length c1) (.slice A2 nb.free.length c2) (.slice A3 NM.length c3)) rfl rfl 62 _ hU.out 5 (by kernel_rfl) rfl rfl (et _ _ rfl rfl rfl) ?_
 intro zP aa J; replace hB := gb hB fR J; replace hF := gr hF hU J; replace hG := gr hG hU J; replace hS := gr hS hU J; replace hP := gr hP hU J; replace hM := gr hM hU J; replace hX := gx hX hU J; replace hY := gn hY dO J; replace hT := gx hT hU J; replace hZ := gx hZ hU J; replace hQ := gx hQ hU J; replace hC := gr hC hU J; replace hD := gr hD hU J; replace hO := gr hO hU J; replace hI := gr hI hU J; replace hJ := gr hJ hU J; replace hE := gr hE hU J; replace iw := gr iw hU J; replace hV := gm hV eO J; replace hU := ak (aa); clear aa J
 refine hK.out _ _ ⟨hQ.out, hV.out⟩ (fun hHeld => ?_)
 clear hK K
 refine pu 11 ag.out ?_
 refine dn ag.out ?_
 clear hHeld
 go_wp2_with fail
 refine bodyPost_ret (fD rfl _ _ _ gZ gU 57 62 _ _ _ _ rfl hZ.out rfl Try.underlying57 (by first | exact HLB.out | exact HLN _ _ _ _) rfl hU.out rfl Try.underlying62 (by kernel_rfl)) rfl ⟨_, _, nb, rfl, ?_, ?_, ?_, hB.out⟩
 ·exact HRG.out
 ·exact ⟨HNL.out, _, _, rfl, hC.out, hD.out⟩
 ·exact ⟨_, _, _, rfl, hI.out, hJ.out, by rw [← HNM.out]; exact hE.out⟩
end Go.Proofs.Ytemhalnhbgkbcaa.V
end

section
namespace Go.Proofs.Ytemhalnhbgkbcaa.V
set_option maxHeartbeats 16000000 in
set_option maxRecDepth 100000 in
theorem KJ (b : Bk) (hg : RG b) (kd : Int) (n : Int) (hn : n < 9223372036854775808) (a : lN) (fE : a.f0.size ≤ 9223372036854775807) (gh : a.f1.size ≤ 9223372036854775807) (l : List Int) (hu : ∀ x ∈ l, 0 ≤ x ∧ x < 4294967296) (hlm : l.length ≤ 9223372036854775807) (Al : Option Addr) (cl : Nat) (hcl : l.length ≤ cl) (aff : ByteArray) (hza : aff.size ≤ 9223372036854775807) (hk : kd ≠ 0 ∧ kd ≠ 1 ∧ kd ≠ 2 ∧ kd ≠ 3 ∧ kd ≠ 4 ∧ kd ≠ 5 ∧ kd ≠ 6 ∧ kd ≠ 7) (v v2 : Value) (w : World) (base : Nat) (hbase : base ≤ w.heap.size) (hO : eP w base v b) (hR : fw w base v2 b) (hC : Kd.C (Kd.int .u32) w Al l.length l) :
  Calls Try.prog 47 #[v, v2, .agg #[.int .i64 kd, .int .i64 n, .string a.f0, .string a.f1, .slice Al l.length cl, .string aff]] w fun e w' => ∃ v1 v2 b', e = .returned (.tuple #[v1, v2, .bool true]) ∧ RG b' ∧ eP w' base v1 b' ∧ fw w' base v2 b' ∧ Below w.heap.size w w' := by
 obtain ⟨hl, vf, va, rfl, hf, ha⟩ := hO
 obtain ⟨vs, vp, vm, rfl, hs, hp, hm⟩ := hR
 obtain ⟨Af, cf, rfl⟩ := Kd.R_slice hf
 obtain ⟨Aa, ca, rfl⟩ := Kd.R_slice ha
 obtain ⟨As, cs, rfl⟩ := Kd.R_slice hs
 obtain ⟨Ap, cp, rfl⟩ := Kd.R_slice hp
 obtain ⟨M, hM⟩ : ∃ M, M = b.attrs.map vc := ⟨_, rfl⟩
 rw [← hM] at hm
 obtain ⟨Am, cm, rfl⟩ := Kd.R_slice hm
 have HL := ak hl
 have HM := ak hM
 have bU := ak hf
 have eT := ak ha
 have bl := ak hs
 have eR := ak hp
 have cb := ak hm
 have HG := ak hg
 have an := ak (Below.refl w.heap.size w)
 have HBASE := ak hbase
 have HLB := ak (dc (bk b.addr b.aff b.slots (.slice Af b.free.length cf) (.slice Aa b.attrs.length ca)) (ao _ _ _ _ _ HL.out))
 obtain ⟨lt, hlt⟩ : ∃ lt, lt = l.take 80 := ⟨_, rfl⟩
 have hut : ∀ x ∈ lt, 0 ≤ x ∧ x < 4294967296 := fun x hx => hu x (by rw [hlt] at hx; exact List.mem_of_mem_take hx)
 have hll : lt.length = min 80 l.length := by rw [hlt, List.length_take]
 have HCL := ak hcl
 have HLL := ak hll
 have HC := ak hC
 have HCT := ak (fun W (I : Below w.heap.size w W) => (show Kd.C (Kd.int .u32) W Al lt.length lt by
  rcases Nat.lt_or_ge 80 l.length with h | h
  ·have h_ := Kd.C_take (m := 80) (Kd.C_below hC I) (by omega)
   rw [← hlt] at h_
   exact h_
  ·have h_ := Kd.C_below hC I
   have e : lt = l := by rw [hlt, List.take_of_length_le h]
   rw [e]
   exact h_))
 obtain ⟨k0, k1, k2, k3, k4, k5, k6, k7⟩ := hk
 have q0 : (kd = 0) = False := eq_false k0
 have r0 : decide (kd = 0) = false := decide_eq_false k0
 have u0 : (kd == 0) = false := beq_eq_false_iff_ne.mpr k0
 have q1 : (kd = 1) = False := eq_false k1
 have r1 : decide (kd = 1) = false := decide_eq_false k1
 have u1 : (kd == 1) = false := beq_eq_false_iff_ne.mpr k1
 have q2 : (kd = 2) = False := eq_false k2
 have r2 : decide (kd = 2) = false := decide_eq_false k2
 have u2 : (kd == 2) = false := beq_eq_false_iff_ne.mpr k2
 have q3 : (kd = 3) = False := eq_false k3
 have r3 : decide (kd = 3) = false := decide_eq_false k3
 have u3 : (kd == 3) = false := beq_eq_false_iff_ne.mpr k3
 have q4 : (kd = 4) = False := eq_false k4
 have r4 : decide (kd = 4) = false := decide_eq_false k4
 have u4 : (kd == 4) = false := beq_eq_false_iff_ne.mpr k4
 have q5 : (kd = 5) = False := eq_false k5
 have r5 : decide (kd = 5) = false := decide_eq_false k5
 have u5 : (kd == 5) = false := beq_eq_false_iff_ne.mpr k5
 have q6 : (kd = 6) = False := eq_false k6
 have r6 : decide (kd = 6) = false := decide_eq_false k6
 have u6 : (kd == 6) = false := beq_eq_false_iff_ne.mpr k6
 have q7 : (kd = 7) = False := eq_false k7
 have r7 : decide (kd = 7) = false := decide_eq_false k7
 have u7 : (kd == 7) = false := beq_eq_false_iff_ne.mpr k7
 clear k0 k1 k2 k3 k4 k5 k6 k7
 clear hl hM hf ha hs hp hm hbase hC hu hut hll hcl hlt hg
 go_enter Try.func47, Try.ntmps47
 go_upto_if 37 with (first
  | (refine aV rfl 57 (.tmp 0) rfl _ rfl ?_; intro gX W1 J aa I; have cw := ge an J; have aA := ak (an.out.trans (I.mono an.out.size)); have bJ := mv I bU; have ea := mv I eT; have bC := mv I bl; have ee := mv I eR; have b7 := mv I cb; have au := ak (aa); clear J aa I an bU eT bl eR cb)
  | (refine aV rfl 62 (.tmp 1) rfl _ rfl ?_; intro gY W2 J aa I; have jT := ge aA J; have gC := ne au J; have aK := mv I aA; have ch := mv I bJ; have er := mv I ea; have b4 := mv I bC; have ej := mv I ee; have dm := mv I b7; have aI := mv I au; have dk := ak (aa); clear J aa I aA bJ ea bC ee b7 au)
  | (refine aV rfl 79 (.tmp 2) rfl _ rfl ?_; intro gT W3 J aa I; have ld := ge aK J; have iL := ne aI J; have jf := ne dk J; have aT := mv I aK; have cW := mv I ch; have eG := mv I er; have cH := mv I b4; have eN := mv I ej; have dT := mv I dm; have aQ := mv I aI; have dj := mv I dk; have ey := ak (aa); clear J aa I aK ch er b4 ej dm aI dk)
  | (refine aH (some 6) rfl rfl 57 rfl bu b6 ?_; intro gZ W4 J aa I; have ct := ge aT J; have aU := ne aQ J; have gS := ne dj J; have ky := ne ey J; have bq := mv I aT; have cU := mv I cW; have eo := mv I eG; have dC := mv I cH; have fg := mv I eN; have dZ := mv I dT; have bg := mv I aQ; have di := mv I dj; have eF := mv I ey; have bB := ak (aa); clear J aa I aT cW eG cH eN dT aQ dj ey)
  | (refine aH (some 7) rfl rfl 62 rfl dW (fun _ => by kernel_rfl) ?_; intro gU W5 J aa I; have fR := ge bq J; have ig := ne bg J; have dO := ne di J; have jI := ne eF J; have iA := ne bB J; have bE := mv I bq; have cQ := mv I cU; have dJ := mv I eo; have dG := mv I dC; have eV := mv I fg; have dw := mv I dZ; have bz := mv I bg; have dY := mv I di; have bQ := mv I eF; have bY := mv I bB; have ff := ak (aa); have kt := bQ.out.cell 0 _ rfl; have iK := bQ.out.cell 1 _ rfl; have ks := bQ.out.cell 2 _ rfl; have kr := bQ.out.cell 3 _ rfl; have kp := bQ.out.cell 4 _ rfl; have ix := bQ.out.cell 5 _ rfl; clear J aa I bq cU eo dC fg dZ bg di eF bB))
 go_cut [9] from 38 to 39 (fun s9 wx => s9 = .slice Al lt.length cl ∧ W5 = wx)
 case first =>
  rcases Nat.lt_or_ge 80 l.length with mA | mA
  ·have mz : decide ((80 : Int) < (l.length : Int)) = true := by simp; omega
   have wI : (((0 : Int) ≤ 80 ∧ (80 : Int) ≤ (cl : Int)) = True) := eq_true ⟨by omega, by have := HCL.out; omega⟩
   have wH : (((80 : Int) ≤ (cl : Int)) = True) := eq_true (by have := HCL.out; omega)
   go_wp2_with fail
   go_meet
   exact ⟨by rw [HLL.out, Nat.min_eq_left (by omega)], rfl⟩
  ·have mz : decide ((80 : Int) < (l.length : Int)) = false := by simp; omega
   go_wp2_with fail
   go_meet
   exact ⟨by rw [HLL.out, Nat.min_eq_right (by omega)], rfl⟩
 case rest =>
 obtain ⟨ic, ib⟩ := hcut
 subst ic
 subst ib
 go_wp2_with fail
 have aq : Below W5.heap.size W5 W5.drew := bL (Below.refl _ _)
 have bZ := mv aq bE; have dD := mv aq cQ; have ef := mv aq dJ; have dN := mv aq dG; have eU := mv aq eV; have ez := mv aq dw; have bH := mv aq bz; have du := mv aq dY; have fJ := mv aq bQ; have cn := mv aq bY; have dI := mv aq ff
 clear aq bE cQ dJ dG eV dw bz dY bQ bY ff kt iK ks kr kp ix
 have hB := bZ
 have hF := dD
 have hG := ef
 have hS := dN
 have hP := eU
 have hM := ez
 have hX := bH
 have hY := du
 have hT := fJ
 have hZ := cn
 have hU := dI
 clear bZ dD ef dN eU ez bH du fJ cn dI
 refine dR (n := 5) (S := fun w' => aX w' gX (bk b.addr b.aff b.slots (.slice Af b.free.length cf) (.slice Aa b.attrs.length ca)) 57 ∧ aX w' gY (dH b.addr b.aff (.slice As b.slots.length cs) (.slice Ap b.free.length cp) (.slice Am M.length cm)) 62) (ds := []) #[false, false, false, false, false] (by kernel_rfl) rfl rfl ⟨hX.out, hY.out⟩ (fun hHeld => ?_); refine b5 mW.tab37 mW.bits37 (fun ag bM => ?_)
 refine tk 0 ag.out bM.out hHeld ?_ (hv := by exact fun _ bj => aY 57 (.tmp 3) rfl gX rfl _ _ _ bj.1 Try.underlying57 rfl HLB.out)
 refine tk 1 ag.out bM.out hHeld ?_ (hv := by exact fun _ bj => aY 62 (.tmp 4) rfl gY rfl _ _ _ bj.2 Try.underlying62 rfl (by kernel_rfl))
 refine ow 2 ag.out (fun K hK => ?_)
 refine bS (by rfl) rfl 57 (.tmp 6) (.tmp 235) rfl gZ (bk b.addr b.aff b.slots (.slice Af b.free.length cf) (.slice Aa b.attrs.length ca)) rfl rfl 57 _ hZ.out 68 (by kernel_rfl) (ao _ _ _ _ _ HL.out) rfl (cA _ _ _ _ _ rfl rfl) ?_
 intro V2 aa J; replace hB := gb hB ct J; replace hF := gr hF hZ J; replace hG := gr hG hZ J; replace hS := gr hS hZ J; replace hP := gr hP hZ J; replace hM := gr hM hZ J; replace hX := gn hX aU J; replace hY := gx hY hZ J; replace hT := gx hT hZ J; replace hU := gx hU hZ J; replace hZ := ak (aa); clear aa J
 refine hK.out _ _ ⟨hX.out, hY.out⟩ (fun hHeld => ?_)
 clear hK K
 refine ow 3 ag.out (fun K hK => ?_)
 refine bS (by rfl) rfl 62 (.tmp 7) (.tmp 236) rfl gU (dH b.addr b.aff (.slice As b.slots.length cs) (.slice Ap b.free.length cp) (.slice Am M.length cm)) rfl rfl 62 _ hU.out 5 (by kernel_rfl) rfl rfl (et _ _ rfl rfl rfl) ?_
 intro V3 aa J; replace hB := gb hB fR J; replace hF := gr hF hU J; replace hG := gr hG hU J; replace hS := gr hS hU J; replace hP := gr hP hU J; replace hM := gr hM hU J; replace hX := gx hX hU J; replace hY := gn hY dO J; replace hT := gx hT hU J; replace hZ := gx hZ hU J; replace hU := ak (aa); clear aa J
 refine hK.out _ _ ⟨hX.out, hY.out⟩ (fun hHeld => ?_)
 clear hK K
 refine pu 4 ag.out ?_
 refine dn ag.out ?_
 clear hHeld
 go_wp2_with fail
 refine bodyPost_ret (fD rfl _ _ _ gZ gU 57 62 _ _ _ _ rfl hZ.out rfl Try.underlying57 (by first | exact HLB.out | exact HLN _ _ _ _) rfl hU.out rfl Try.underlying62 (by kernel_rfl)) rfl ⟨_, _, b, rfl, ?_, ?_, ?_, hB.out⟩
 ·exact HG.out
 ·exact ⟨HL.out, _, _, rfl, hF.out, hG.out⟩
 ·exact ⟨_, _, _, rfl, hS.out, hP.out, by rw [← HM.out]; exact hM.out⟩
end Go.Proofs.Ytemhalnhbgkbcaa.V
end

section
namespace Go.Proofs.Ytemhalnhbgkbcaa.V
set_option maxHeartbeats 16000000 in
set_option maxRecDepth 100000 in
theorem Q0 (b : Bk) (hg : RG b) (n : Int) (hn : n < 9223372036854775808) (a : lN) (fE : a.f0.size ≤ 9223372036854775807) (gh : a.f1.size ≤ 9223372036854775807) (l : List Int) (hu : ∀ x ∈ l, 0 ≤ x ∧ x < 4294967296) (hlm : l.length ≤ 9223372036854775807) (Al : Option Addr) (cl : Nat) (hcl : l.length ≤ cl) (aff : ByteArray) (hza : aff.size ≤ 9223372036854775807) (v v2 : Value) (w : World) (base : Nat) (hbase : base ≤ w.heap.size) (hO : eP w base v b) (hR : fw w base v2 b) (hC : Kd.C (Kd.int .u32) w Al l.length l) :
  Calls Try.prog 47 #[v, v2, .agg #[.int .i64 4, .int .i64 n, .string a.f0, .string a.f1, .slice Al l.length cl, .string aff]] w fun e w' => ∃ v1 v2 b', e = .returned (.tuple #[v1, v2, .bool true]) ∧ RG b' ∧ eP w' base v1 b' ∧ fw w' base v2 b' ∧ Below w.heap.size w w' := by
 obtain ⟨hl, vf, va, rfl, hf, ha⟩ := hO
 obtain ⟨vs, vp, vm, rfl, hs, hp, hm⟩ := hR
 obtain ⟨Af, cf, rfl⟩ := Kd.R_slice hf
 obtain ⟨Aa, ca, rfl⟩ := Kd.R_slice ha
 obtain ⟨As, cs, rfl⟩ := Kd.R_slice hs
 obtain ⟨Ap, cp, rfl⟩ := Kd.R_slice hp
 obtain ⟨M, hM⟩ : ∃ M, M = b.attrs.map vc := ⟨_, rfl⟩
 rw [← hM] at hm
 obtain ⟨Am, cm, rfl⟩ := Kd.R_slice hm
 have HL := ak hl
 have HM := ak hM
 have bU := ak hf
 have eT := ak ha
 have bl := ak hs
 have eR := ak hp
 have cb := ak hm
 have HG := ak hg
 have an := ak (Below.refl w.heap.size w)
 have HBASE := ak hbase
 have HLB := ak (dc (bk b.addr b.aff b.slots (.slice Af b.free.length cf) (.slice Aa b.attrs.length ca)) (ao _ _ _ _ _ HL.out))
 obtain ⟨lt, hlt⟩ : ∃ lt, lt = l.take 80 := ⟨_, rfl⟩
 have hut : ∀ x ∈ lt, 0 ≤ x ∧ x < 4294967296 := fun x hx => hu x (by rw [hlt] at hx; exact List.mem_of_mem_take hx)
 have hll : lt.length = min 80 l.length := by rw [hlt, List.length_take]
 have HCL := ak hcl
 have HLL := ak hll
 have HC := ak hC
 have HCT := ak (fun W (I : Below w.heap.size w W) => (show Kd.C (Kd.int .u32) W Al lt.length lt by
  rcases Nat.lt_or_ge 80 l.length with h | h
  ·have h_ := Kd.C_take (m := 80) (Kd.C_below hC I) (by omega)
   rw [← hlt] at h_
   exact h_
  ·have h_ := Kd.C_below hC I
   have e : lt = l := by rw [hlt, List.take_of_length_le h]
   rw [e]
   exact h_))
 have hp := jD hg.right
 have hrg := hg.rel lt
 have hbl := fun v w h hC => qq b hg.ok lt hut (by omega) Al cl hg.right v w h hC
 have hrl := fun v w h hC => rY b hg.ok hp hl lt hut (by omega) Al cl v w h hC
 rw [yY hg] at hrl
 obtain ⟨nb, hnb⟩ : ∃ nb, nb = mV b lt := ⟨_, rfl⟩
 obtain ⟨oo, hoo⟩ : ∃ oo, oo = (relL b lt).2 := ⟨_, rfl⟩
 rw [← hnb, ← hoo] at hbl hrl
 rw [← hnb] at hrg
 have hol : oo.length ≤ 1000 := by rw [hoo]; have h_ := (uW hg.ok hp hl lt lt.length (Nat.le_refl _)).ol; rw [List.take_length] at h_; omega
 have HRG := ak hrg
 have HNL := ak hrg.l64
 have HOL := ak hol
 have HLN := fun A8 c8 A9 c9 => dc (bk nb.addr nb.aff nb.slots (.slice A8 nb.free.length c8) (.slice A9 nb.attrs.length c9)) (ao _ _ _ _ _ HNL.out)
 have HBL := ak hbl
 have HRL := ak hrl
 clear hrg hbl hrl hol hnb hoo hp
 clear hl hM hf ha hs hp hm hbase hC hu hut hll hcl hlt hg
 go_enter Try.func47, Try.ntmps47
 go_upto_if 37 with (first
  | (refine aV rfl 57 (.tmp 0) rfl _ rfl ?_; intro gX W1 J aa I; have cw := ge an J; have aA := ak (an.out.trans (I.mono an.out.size)); have bJ := mv I bU; have ea := mv I eT; have bC := mv I bl; have ee := mv I eR; have b7 := mv I cb; have au := ak (aa); clear J aa I an bU eT bl eR cb)
  | (refine aV rfl 62 (.tmp 1) rfl _ rfl ?_; intro gY W2 J aa I; have jT := ge aA J; have gC := ne au J; have aK := mv I aA; have ch := mv I bJ; have er := mv I ea; have b4 := mv I bC; have ej := mv I ee; have dm := mv I b7; have aI := mv I au; have dk := ak (aa); clear J aa I aA bJ ea bC ee b7 au)
  | (refine aV rfl 79 (.tmp 2) rfl _ rfl ?_; intro gT W3 J aa I; have ld := ge aK J; have iL := ne aI J; have jf := ne dk J; have aT := mv I aK; have cW := mv I ch; have eG := mv I er; have cH := mv I b4; have eN := mv I ej; have dT := mv I dm; have aQ := mv I aI; have dj := mv I dk; have ey := ak (aa); clear J aa I aK ch er b4 ej dm aI dk)
  | (refine aH (some 6) rfl rfl 57 rfl bu b6 ?_; intro gZ W4 J aa I; have ct := ge aT J; have aU := ne aQ J; have gS := ne dj J; have ky := ne ey J; have bq := mv I aT; have cU := mv I cW; have eo := mv I eG; have dC := mv I cH; have fg := mv I eN; have dZ := mv I dT; have bg := mv I aQ; have di := mv I dj; have eF := mv I ey; have bB := ak (aa); clear J aa I aT cW eG cH eN dT aQ dj ey)
  | (refine aH (some 7) rfl rfl 62 rfl dW (fun _ => by kernel_rfl) ?_; intro gU W5 J aa I; have fR := ge bq J; have ig := ne bg J; have dO := ne di J; have jI := ne eF J; have iA := ne bB J; have bE := mv I bq; have cQ := mv I cU; have dJ := mv I eo; have dG := mv I dC; have eV := mv I fg; have dw := mv I dZ; have bz := mv I bg; have dY := mv I di; have bQ := mv I eF; have bY := mv I bB; have ff := ak (aa); have kt := bQ.out.cell 0 _ rfl; have iK := bQ.out.cell 1 _ rfl; have ks := bQ.out.cell 2 _ rfl; have kr := bQ.out.cell 3 _ rfl; have kp := bQ.out.cell 4 _ rfl; have ix := bQ.out.cell 5 _ rfl; clear J aa I bq cU eo dC fg dZ bg di eF bB))
 go_cut [9] from 38 to 39 (fun s9 wx => s9 = .slice Al lt.length cl ∧ W5 = wx)
 case first =>
  rcases Nat.lt_or_ge 80 l.length with mA | mA
  ·have mz : decide ((80 : Int) < (l.length : Int)) = true := by simp; omega
   have wI : (((0 : Int) ≤ 80 ∧ (80 : Int) ≤ (cl : Int)) = True) := eq_true ⟨by omega, by have := HCL.out; omega⟩
   have wH : (((80 : Int) ≤ (cl : Int)) = True) := eq_true (by have := HCL.out; omega)
   go_wp2_with fail
   go_meet
   exact ⟨by rw [HLL.out, Nat.min_eq_left (by omega)], rfl⟩
  ·have mz : decide ((80 : Int) < (l.length : Int)) = false := by simp; omega
   go_wp2_with fail
   go_meet
   exact ⟨by rw [HLL.out, Nat.min_eq_right (by omega)], rfl⟩
 case rest =>
 obtain ⟨ic, ib⟩ := hcut
 subst ic
 subst ib
 go_wp2_with (first
  | ((with_reducible refine aJ (N := 116) rfl ?_); refine aN rfl 57 (.tmp 3) rfl gX rfl _ _ _ bz.out Try.underlying57 rfl 68 (by kernel_rfl) (ao _ _ _ _ _ HL.out) ?_)
  | (go_at_call 52; refine (HBL.out _ _ ⟨_, _, _, _, rfl, ⟨HL.out, (rr cQ).1, (rr cQ).2, (rr dJ).1, (rr dJ).2⟩⟩ (HCT.out _ bE.out)).mono ?_; rintro e W6 ⟨v_, ml, rfl, bc, fM, I⟩; have HSZ := ak (lb HBASE bE); obtain ⟨iZ, p6, p7, rfl, dM, ew⟩ := bc; obtain ⟨A8, c8, rfl⟩ := Kd.R_slice dM; obtain ⟨A9, c9, rfl⟩ := Kd.R_slice ew; obtain ⟨Ao, co, rfl⟩ := Kd.R_slice fM; have bZ := mv I bE; have dD := mv I cQ; have ef := mv I dJ; have dN := mv I dG; have eU := mv I eV; have ez := mv I dw; have bH := mv I bz; have du := mv I dY; have fJ := mv I bQ; have cn := mv I bY; have dI := mv I ff; have nI := ak (Kd.R_lower dM HSZ.out); have nF := ak (Kd.R_lower ew HSZ.out); have od := ak (Kd.R_lower fM HSZ.out); clear HSZ iZ dM ew fM I bE cQ dJ dG eV dw bz dY bQ bY ff kt iK ks kr kp ix)
  | (refine aH (some 15) rfl rfl 57 rfl bu b6 ?_; intro gQ W7 J aa I; have dr := ge bZ J; have bI := ne bH J; have wh := ne du J; have wj := ne fJ J; have bs := ne cn J; have wi := ne dI J; have eH := mv I bZ; have fA := mv I dD; have ji := mv I ef; have gq := mv I dN; have l4 := mv I eU; have ju := mv I ez; have dP := mv I bH; have iY := mv I du; have nB := mv I fJ; have ep := mv I cn; have nA := mv I dI; have nH := mv I nI; have nE := mv I nF; have kX := mv I od; have en := ak (aa); clear J aa I bZ dD ef dN eU ez bH du fJ cn dI nI nF od)
  | (refine a7 rfl 57 (.tmp 15) (.tmp 119) rfl gQ (bk nb.addr nb.aff nb.slots (.slice A8 nb.free.length c8) (.slice A9 nb.attrs.length c9)) rfl rfl 57 _ en.out 68 (by kernel_rfl) (ao _ _ _ _ _ HNL.out) rfl (cA _ _ _ _ _ rfl rfl) ?_; intro W8 aa J; have gJ := gb eH dr J; have jw := gr fA en J; have jv := gr ji en J; have kI := gr gq en J; have lJ := gr l4 en J; have lK := gr ju en J; have gH := gn dP bI J; have kG := gx iY en J; have mi := gx nB en J; have gG := gn ep bs J; have nz := gx nA en J; have nG := gr nH en J; have nD := gr nE en J; have rf := gr kX en J; have pQ := ak (aa); clear aa J eH fA ji gq l4 ju dP iY nB ep nA nH nE kX en)
  | ((with_reducible refine aJ (N := 123) rfl ?_); refine aN rfl 62 (.tmp 4) rfl gY rfl _ _ _ kG.out Try.underlying62 rfl 5 (by kernel_rfl) rfl ?_)
  | (go_at_call 84; refine (HRL.out _ _ ⟨M, As, cs, Ap, cp, Am, cm, rfl, (jL.of HM.out kI.out lJ.out lK.out)⟩ (HCT.out _ gJ.out)).mono ?_; rintro e W9 ⟨v9, rR, rfl, fS, mr, I⟩; have HSZ := ak (lb HBASE gJ); obtain ⟨wZ, sZ, ta, rfl, ie, fP, fi⟩ := fS; obtain ⟨A1, c1, rfl⟩ := Kd.R_slice ie; obtain ⟨A2, c2, rfl⟩ := Kd.R_slice fP; obtain ⟨NM, hNM⟩ : ∃ NM, NM = nb.attrs.map vc := ⟨_, rfl⟩; rw [← hNM] at fi; have HNM := ak hNM; obtain ⟨A3, c3, rfl⟩ := Kd.R_slice fi; obtain ⟨Fg, EE, rfl⟩ := Kd.R_slice mr; have lp := mv I gJ; have oT := mv I jw; have oS := mv I jv; have mj := mv I kI; have oP := mv I lJ; have oQ := mv I lK; have ln := mv I gH; have mh := mv I kG; have oc := mv I mi; have kW := mv I gG; have oN := mv I nz; have pX := mv I nG; have pV := mv I nD; have xL := mv I rf; have oO := mv I pQ; have E9 := ak (Kd.R_lower ie HSZ.out); have RC := ak (Kd.R_lower fP HSZ.out); have RN := ak (Kd.R_lower fi HSZ.out); have wu := ak (Kd.R_lower mr HSZ.out); clear HSZ hNM ie fP fi mr I gJ jw jv kI lJ lK gH kG mi gG nz nG nD rf pQ)
  | (refine aH (some 18) rfl rfl 62 rfl dW (fun _ => by kernel_rfl) ?_; intro gV TU J aa I; have dQ := ge lp J; have fL := ne ln J; have fp := ne mh J; have sR := ne oc J; have kU := ne kW J; have eO := ne oN J; have wk := ne oO J; have nY := mv I lp; have ue := mv I oT; have ub := mv I oS; have pP := mv I mj; have tQ := mv I oP; have tV := mv I oQ; have nU := mv I ln; have qy := mv I mh; have rG := mv I oc; have oE := mv I kW; have rE := mv I oN; have uk := mv I pX; have uh := mv I pV; have Mo := mv I xL; have rI := mv I oO; have tY := mv I E9; have AI := mv I RC; have Bi := mv I RN; have E5 := mv I wu; have la := ak (aa); clear J aa I lp oT oS mj oP oQ ln mh oc kW oN pX pV xL oO E9 RC RN wu)
  | (refine a7 rfl 62 (.tmp 18) (.tmp 126) rfl gV (dH nb.addr nb.aff (.slice A1 nb.slots.length c1) (.slice A2 nb.free.length c2) (.slice A3 NM.length c3)) rfl rfl 62 _ la.out 5 (by kernel_rfl) rfl rfl (et _ _ rfl rfl rfl) ?_; intro LP aa J; have ur := gb nY dQ J; have Bd := gr ue la J; have AV := gr ub la J; have tL := gr pP la J; have Aw := gr tQ la J; have AB := gr tV la J; have pN := gx nU la J; have zY := gn qy fp J; have z9 := gx rG la J; have tz := gx oE la J; have z7 := gn rE eO J; have Br := gr uk la J; have Bn := gr uh la J; have Mm := gr Mo la J; have Aj := gx rI la J; have rJ := gr tY la J; have AH := gr AI la J; have Bh := gr Bi la J; have JN := gr E5 la J; have kH := ak (aa); clear aa J nY ue ub pP tQ tV nU qy rG oE rE uk uh Mo rI tY AI Bi E5 la))
 have aq : Below LP.heap.size LP LP.drew := bL (Below.refl _ _)
 have uq := mv aq ur; have Bc := mv aq Bd; have AU := mv aq AV; have rH := mv aq tL; have Av := mv aq Aw; have AA := mv aq AB; have pM := mv aq pN; have zX := mv aq zY; have yj := mv aq z9; have rD := mv aq tz; have z6 := mv aq z7; have Bq := mv aq Br; have Bm := mv aq Bn; have Ml := mv aq Mm; have Ai := mv aq Aj; have qB := mv aq rJ; have AG := mv aq AH; have Bg := mv aq Bh; have JM := mv aq JN; have jP := mv aq kH
 clear aq ur Bd AV tL Aw AB pN zY z9 tz z7 Br Bn Mm Aj rJ AH Bh JN kH
 have hB := uq
 have hF := Bc
 have hG := AU
 have hS := rH
 have hP := Av
 have hM := AA
 have hX := pM
 have hY := zX
 have hT := yj
 have hZ := rD
 have hU := z6
 have hC := Bq
 have hD := Bm
 have hO := Ml
 have hQ := Ai
 have hI := qB
 have hJ := AG
 have hE := Bg
 have iw := JM
 have hV := jP
 clear uq Bc AU rH Av AA pM zX yj rD z6 Bq Bm Ml Ai qB AG Bg JM jP
 refine dR (n := 12) (S := fun w' => aX w' gQ (bk nb.addr nb.aff nb.slots (.slice A8 nb.free.length c8) (.slice A9 nb.attrs.length c9)) 57 ∧ aX w' gV (dH nb.addr nb.aff (.slice A1 nb.slots.length c1) (.slice A2 nb.free.length c2) (.slice A3 NM.length c3)) 62) (ds := []) #[false, false, false, false, false, false, false, false, false, false, false, false] (by kernel_rfl) rfl rfl ⟨hQ.out, hV.out⟩ (fun hHeld => ?_); refine b5 tl.tab19 tl.bits19 (fun ag bM => ?_)
 refine tk 0 ag.out bM.out hHeld ?_ (hv := by exact fun _ bj => aY 57 (.tmp 15) rfl gQ rfl _ _ _ bj.1 Try.underlying57 rfl (HLN _ _ _ _))
 refine tk 1 ag.out bM.out hHeld ?_ (hv := by exact fun _ bj => aY 62 (.tmp 18) rfl gV rfl _ _ _ bj.2 Try.underlying62 rfl (by kernel_rfl))
 refine pu 2 ag.out ?_
 refine pu 3 ag.out ?_
 refine pu 4 ag.out ?_
 refine pu 5 ag.out ?_
 refine pu 6 ag.out ?_
 refine on 7 ag.out (fun K hK => ?_)
 refine gs Try.func61 #[(.slice Ao oo.length co), (.slice Fg oo.length EE)] (rB oo HOL.out _ _ _ _ _ (Kd.R_reads' hO.out).2.2 (Kd.R_reads' hO.out).2.1 (Kd.R_reads' iw.out).2.2 (Kd.R_reads' iw.out).2.1) ?_
 rintro e V7 ⟨rfl, I⟩
 refine ⟨_, rfl, ?_⟩
 replace hB := mv I hB; replace hF := mv I hF; replace hG := mv I hG; replace hS := mv I hS; replace hP := mv I hP; replace hM := mv I hM; replace hX := mv I hX; replace hY := mv I hY; replace hT := mv I hT; replace hZ := mv I hZ; replace hU := mv I hU; replace hC := mv I hC; replace hD := mv I hD; replace hO := mv I hO; replace hQ := mv I hQ; replace hI := mv I hI; replace hJ := mv I hJ; replace hE := mv I hE; replace iw := mv I iw; replace hV := mv I hV
 refine kn hK ⟨hQ.out, hV.out⟩ (fun hHeld => ?_)
 clear hK K
 refine pu 8 ag.out ?_
 refine ow 9 ag.out (fun K hK => ?_)
 refine bS (by rfl) rfl 57 (.tmp 6) (.tmp 128) rfl gZ (bk nb.addr nb.aff nb.slots (.slice A8 nb.free.length c8) (.slice A9 nb.attrs.length c9)) rfl rfl 57 _ hZ.out 68 (by kernel_rfl) (ao _ _ _ _ _ HNL.out) rfl (cA _ _ _ _ _ rfl rfl) ?_
 intro V9 aa J; replace hB := gb hB ct J; replace hF := gr hF hZ J; replace hG := gr hG hZ J; replace hS := gr hS hZ J; replace hP := gr hP hZ J; replace hM := gr hM hZ J; replace hX := gn hX aU J; replace hY := gx hY hZ J; replace hT := gx hT hZ J; replace hU := gx hU hZ J; replace hC := gr hC hZ J; replace hD := gr hD hZ J; replace hO := gr hO hZ J; replace hQ := gm hQ bs J; replace hI := gr hI hZ J; replace hJ := gr hJ hZ J; replace hE := gr hE hZ J; replace iw := gr iw hZ J; replace hV := gx hV hZ J; replace hZ := ak (aa); clear aa J
 refine hK.out _ _ ⟨hQ.out, hV.out⟩ (fun hHeld => ?_)
 clear hK K
 refine ow 10 ag.out (fun K hK => ?_)
 refine bS (by rfl) rfl 62 (.tmp 7) (.tmp 129) rfl gU (dH nb.addr nb.aff (.slice A1 nb.slots.length c1) (.slice A2 nb.free.length c2) (.slice A3 NM.length c3)) rfl rfl 62 _ hU.out 5 (by kernel_rfl) rfl rfl (et _ _ rfl rfl rfl) ?_
 intro zP aa J; replace hB := gb hB fR J; replace hF := gr hF hU J; replace hG := gr hG hU J; replace hS := gr hS hU J; replace hP := gr hP hU J; replace hM := gr hM hU J; replace hX := gx hX hU J; replace hY := gn hY dO J; replace hT := gx hT hU J; replace hZ := gx hZ hU J; replace hC := gr hC hU J; replace hD := gr hD hU J; replace hO := gr hO hU J; replace hQ := gx hQ hU J; replace hI := gr hI hU J; replace hJ := gr hJ hU J; replace hE := gr hE hU J; replace iw := gr iw hU J; replace hV := gm hV eO J; replace hU := ak (aa); clear aa J
 refine hK.out _ _ ⟨hQ.out, hV.out⟩ (fun hHeld => ?_)
 clear hK K
 refine pu 11 ag.out ?_
 refine dn ag.out ?_
 clear hHeld
 go_wp2_with fail
 refine bodyPost_ret (fD rfl _ _ _ gZ gU 57 62 _ _ _ _ rfl hZ.out rfl Try.underlying57 (by first | exact HLB.out | exact HLN _ _ _ _) rfl hU.out rfl Try.underlying62 (by kernel_rfl)) rfl ⟨_, _, nb, rfl, ?_, ?_, ?_, hB.out⟩
 ·exact HRG.out
 ·exact ⟨HNL.out, _, _, rfl, hC.out, hD.out⟩
 ·exact ⟨_, _, _, rfl, hI.out, hJ.out, by rw [← HNM.out]; exact hE.out⟩
end Go.Proofs.Ytemhalnhbgkbcaa.V
end

