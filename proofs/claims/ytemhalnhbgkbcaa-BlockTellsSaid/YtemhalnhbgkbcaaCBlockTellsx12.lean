/- The law BlockTells for every input: texts of ours, put together (part 13 of 16). No further condition. -/
import Derived.Test.YtemhalnhbgkbcaaCBlockTellsx2
import Derived.Test.YtemhalnhbgkbcaaCBlockTellsx6
import Derived.Test.YtemhalnhbgkbcaaCBlockTellsx11
import Derived.Outline
set_option linter.unusedVariables false
set_option linter.unusedSimpArgs false
open Go.RowKit Go.Proofs.YtemhalnhbgkbcaaW.PrintWords Go.Proofs.YtemhalnhbgkbcaaW.PrintLast Go.Proofs.YtemhalnhbgkbcaaW.PrintMore Go.Proofs.Ytemhalnhbgkbcaa.Z
section
namespace Go.Proofs.Ytemhalnhbgkbcaa.V
set_option maxHeartbeats 16000000 in
set_option maxRecDepth 100000 in
theorem Kx (b : Bk) (hg : RG b) (kd : Int) (hkd : kd = 0 ∨ kd = 1) (n : Int) (hn : n < 9223372036854775808) (a : kz) (e7 : a.f0.size ≤ 9223372036854775807) (fE : a.f1.size ≤ 9223372036854775807) (l : List Int) (hu : ∀ x ∈ l, 0 ≤ x ∧ x < 4294967296) (hlm : l.length ≤ 9223372036854775807) (Al : Option Addr) (cl : Nat) (hcl : l.length ≤ cl) (aff : ByteArray) (hza : aff.size ≤ 9223372036854775807) (hma : eo (cv a) = false) (v v2 : Value) (w : World) (base : Nat) (hbase : base ≤ w.heap.size) (hO : ea w base v b) (hR : eG w base v2 b) (hC : Kd.C (Kd.int .u32) w Al l.length l) :
  Calls Try.prog 47 #[v, v2, .agg #[.int .i64 kd, .int .i64 n, .string a.f0, .string a.f1, .slice Al l.length cl, .string aff]] w fun e w' => ∃ v1 v2 b', e = .returned (.tuple #[v1, v2, .bool true]) ∧ RG b' ∧ ea w' base v1 b' ∧ eG w' base v2 b' ∧ Below w.heap.size w w' := by
 obtain ⟨hl, vf, va, rfl, hf, ha⟩ := hO
 obtain ⟨vs, vp, vm, rfl, hs, hp, hm⟩ := hR
 obtain ⟨Af, cf, rfl⟩ := Kd.R_slice hf
 obtain ⟨Aa, ca, rfl⟩ := Kd.R_slice ha
 obtain ⟨As, cs, rfl⟩ := Kd.R_slice hs
 obtain ⟨Ap, cp, rfl⟩ := Kd.R_slice hp
 obtain ⟨M, hM⟩ : ∃ M, M = b.attrs.map vc := ⟨_, rfl⟩
 rw [← hM] at hm
 obtain ⟨Am, cm, rfl⟩ := Kd.R_slice hm
 have HL := ak hl
 have HM := ak hM
 have bw := ak hf
 have dY := ak ha
 have aX := ak hs
 have dT := ak hp
 have bD := ak hm
 have HG := ak hg
 have ae := ak (Below.refl w.heap.size w)
 have HBASE := ak hbase
 have HLB := ak (cg (aZ b.addr b.aff b.slots (.slice Af b.free.length cf) (.slice Aa b.attrs.length ca)) (ag _ _ _ _ _ HL.out))
 obtain ⟨lt, hlt⟩ : ∃ lt, lt = l.take 80 := ⟨_, rfl⟩
 have hut : ∀ x ∈ lt, 0 ≤ x ∧ x < 4294967296 := fun x hx => hu x (by rw [hlt] at hx; exact List.mem_of_mem_take hx)
 have hll : lt.length = min 80 l.length := by rw [hlt, List.length_take]
 have HCL := ak hcl
 have HLL := ak hll
 have HC := ak hC
 have HCT := ak (fun W (I : Below w.heap.size w W) => (show Kd.C (Kd.int .u32) W Al lt.length lt by
  rcases Nat.lt_or_ge 80 l.length with h | h
  ·have h_ := Kd.C_take (m := 80) (Kd.C_below hC I) (by omega)
   rw [← hlt] at h_
   exact h_
  ·have h_ := Kd.C_below hC I
   have e : lt = l := by rw [hlt, List.take_of_length_le h]
   rw [e]
   exact h_))
 have hbl := fun v w h => pB b hg.ok n hn (cv a) v w h
 have hok : lH b n (cv a) = false := by unfold lH; rw [hma]; simp
 rw [hok] at hbl
 simp only [Bool.false_eq_true, if_false, if_true] at hbl
 have HMY := ak (fun w => qj a e7 fE w)
 rw [hma] at HMY
 obtain ⟨nb, hnb⟩ : ∃ nb, nb = jP := ⟨_, rfl⟩
 have hnl : jP.slots.length = 64 := rfl
 rw [← hnb] at hbl hnl
 have HNB := ak hnb
 have HNL := ak hnl
 have HLN := fun A8 c8 A9 c9 => cg (aZ nb.addr nb.aff nb.slots (.slice A8 nb.free.length c8) (.slice A9 nb.attrs.length c9)) (ag _ _ _ _ _ HNL.out)
 have HZR := ak (fun v w h => oc v w (by rw [← HNB.out]; exact h))
 obtain ⟨oo, hoo⟩ : ∃ oo : List Int, oo = [] := ⟨_, rfl⟩
 rw [← hoo] at hbl
 have o0 : decide ((oo.length : Int) = 0) = true := by rw [hoo]; rfl
 have o1 : ((oo.length : Int) == 0) = true := by rw [hoo]; rfl
 have o2 : ((oo.length : Int) = 0) = True := by rw [hoo]; simp
 have o3 : (oo.length = 0) = True := by rw [hoo]; simp
 have o4 : (oo = []) = True := eq_true hoo
 have HBL := ak hbl
 clear hbl hnb hnl hma hok hoo
 have HKD := ak hkd
 clear hkd
 clear hl hM hf ha hs hp hm hbase hC hu hut hll hcl hlt hg
 go_enter Try.func47, Try.ntmps47
 go_upto_if 37 with (first
  | (refine aE rfl 57 (.tmp 0) rfl _ rfl ?_; intro gX W1 J aa I; have bQ := ge ae J; have ai := ak (ae.out.trans (I.mono ae.out.size)); have bp := mv I bw; have dp := mv I dY; have bd := mv I aX; have cZ := mv I dT; have bH := mv I bD; have ah := ak (aa); clear J aa I ae bw dY aX dT bD)
  | (refine aE rfl 62 (.tmp 1) rfl _ rfl ?_; intro gY W2 J aa I; have iX := ge ai J; have fB := ne ah J; have av := mv I ai; have bT := mv I bp; have dF := mv I dp; have bC := mv I bd; have dd := mv I cZ; have b9 := mv I bH; have au := mv I ah; have b8 := ak (aa); clear J aa I ai bp dp bd cZ bH ah)
  | (refine aE rfl 79 (.tmp 2) rfl _ rfl ?_; intro gT W3 J aa I; have j9 := ge av J; have gW := ne au J; have ir := ne b8 J; have aD := mv I av; have cj := mv I bT; have dQ := mv I dF; have bU := mv I bC; have dA := mv I dd; have cN := mv I b9; have aA := mv I au; have b7 := mv I b8; have dK := ak (aa); clear J aa I av bT dF bC dd b9 au b8)
  | (refine aw (some 6) rfl rfl 57 rfl a9 bP ?_; intro gZ W4 J aa I; have bN := ge aD J; have aG := ne aA J; have fM := ne b7 J; have jC := ne dK J; have aY := mv I aD; have ch := mv I cj; have dE := mv I dQ; have cx := mv I bU; have dX := mv I dA; have cR := mv I cN; have aV := mv I aA; have bZ := mv I b7; have dP := mv I dK; have a8 := ak (aa); clear J aa I aD cj dQ bU dA cN aA b7 dK)
  | (refine aw (some 7) rfl rfl 62 rfl dG (fun _ => by kernel_rfl) ?_; intro gU W5 J aa I; have fu := ge aY J; have gC := ne aV J; have dw := ne bZ J; have jD := ne dP J; have gB := ne a8 J; have bf := mv I aY; have cb := mv I ch; have de := mv I dE; have cJ := mv I cx; have ee := mv I dX; have cG := mv I cR; have bb := mv I aV; have cB := mv I bZ; have bx := mv I dP; have bu := mv I a8; have eH := ak (aa); have jA := bx.out.cell 0 _ rfl; have gR := bx.out.cell 1 _ rfl; have jz := bx.out.cell 2 _ rfl; have jy := bx.out.cell 3 _ rfl; have jx := bx.out.cell 4 _ rfl; have gv := bx.out.cell 5 _ rfl; clear J aa I aY ch dE cx dX cR aV bZ dP a8))
 go_cut [9] from 38 to 39 (fun s9 wx => s9 = .slice Al lt.length cl ∧ W5 = wx)
 case first =>
  rcases Nat.lt_or_ge 80 l.length with k8 | k8
  ·have kZ : decide ((80 : Int) < (l.length : Int)) = true := by simp; omega
   have tJ : (((0 : Int) ≤ 80 ∧ (80 : Int) ≤ (cl : Int)) = True) := eq_true ⟨by omega, by have := HCL.out; omega⟩
   have tI : (((80 : Int) ≤ (cl : Int)) = True) := eq_true (by have := HCL.out; omega)
   go_wp2_with fail
   go_meet
   exact ⟨by rw [HLL.out, Nat.min_eq_left (by omega)], rfl⟩
  ·have kZ : decide ((80 : Int) < (l.length : Int)) = false := by simp; omega
   go_wp2_with fail
   go_meet
   exact ⟨by rw [HLL.out, Nat.min_eq_right (by omega)], rfl⟩
 case rest =>
 obtain ⟨fY, fX⟩ := hcut
 subst fY
 subst fX
 go_upto_if 42 with fail
 go_cut [42] from 43 to 44 (fun sY wx => sY = .bool true ∧ W5 = wx)
 case first =>
  rcases HKD.out with cD | cD
  ·skip
   have yX : (kd = 0) = True := eq_true (by omega)
   have EB : decide (kd = 0) = true := by simp; omega
   have Et : (kd == 0) = true := by simp; omega
   clear cD
   go_wp2_with fail
   go_meet
   exact ⟨by first | rfl | simp [yX], rfl⟩
  ·skip
   have yX : (kd = 0) = False := eq_false (by omega)
   have EB : decide (kd = 0) = false := by simp; omega
   have Et : (kd == 0) = false := by simp; omega
   have ED : (kd = 1) = True := eq_true (by omega)
   have Of : decide (kd = 1) = true := by simp; omega
   have Oc : (kd == 1) = true := by simp; omega
   clear cD
   go_wp2_with fail
   go_meet
   exact ⟨by first | rfl | simp [ED], rfl⟩
 case rest =>
 obtain ⟨fY, fX⟩ := hcut
 subst fY
 subst fX
 go_wp2_with fail
 have aj : Below W5.heap.size W5 W5.drew := bo (Below.refl _ _)
 have bG := mv aj bf; have cQ := mv aj cb; have dt := mv aj de; have cY := mv aj cJ; have ef := mv aj ee; have dD := mv aj cG; have bh := mv aj bb; have cX := mv aj cB; have fh := mv aj bx; have bS := mv aj bu; have dW := mv aj eH
 clear aj bf cb de cJ ee cG bb cB bx bu eH jA gR jz jy jx gv
 have hB := bG
 have hF := cQ
 have hG := dt
 have hS := cY
 have hP := ef
 have hM := dD
 have hX := bh
 have hY := cX
 have hT := fh
 have hZ := bS
 have hU := dW
 clear bG cQ dt cY ef dD bh cX fh bS dW
 refine cW (n := 15) (S := fun w' => aH w' gX (aZ b.addr b.aff b.slots (.slice Af b.free.length cf) (.slice Aa b.attrs.length ca)) 57 ∧ aH w' gT [.int .i64 kd, .int .i64 n, .string a.f0, .string a.f1, .slice Al l.length cl, .string aff] 79) (ds := []) #[false, false, false, false, false, false, false, false, false, false, false, false, false, false, false] (by kernel_rfl) rfl rfl ⟨hX.out, hT.out⟩ (fun hHeld => ?_); refine bK o8.tab7 o8.bits7 (fun ab bj => ?_)
 refine tk 0 ab.out bj.out hHeld ?_ (hv := by exact fun _ aU => aI 57 (.tmp 3) rfl gX rfl _ _ _ aU.1 Try.underlying57 rfl HLB.out)
 refine pu 1 ab.out ?_
 refine tk 2 ab.out bj.out hHeld ?_ (hv := by intro w' aU; have Bl := aU.2.cell 1 _ rfl; go_simp; with_reducible rfl)
 refine pu 3 ab.out ?_
 refine tk 4 ab.out bj.out hHeld ?_ (hv := by exact fun _ aU => nw 76 (.tmp 49) rfl gT 2 rfl _ _ [.string a.f0, .string a.f1] _ aU.2 ui Try.underlying76 rfl (by kernel_rfl))
 refine pw (σ := Nat × Value × Value) 3 #[true, true, true, true, true, true, true, true, true, true, true, true, false, false, false] (fun s => [(51, ej (cv a)), (52, .tuple #[s.2.1, s.2.2, .int .i64 1]), (45, .tuple #[s.2.1, s.2.2, .int .i64 1]), (53, s.2.1), (54, s.2.2), (55, .int .i64 1), (10, .pointer (some ⟨s.1, 0, none⟩))]) (fun s w' => Aside0 (Below w.heap.size w w') ∧ Aside0 (Kd.R (Kd.int .u8) 5 w' base (fun _ => True) (.slice Af b.free.length cf) b.free) ∧ Aside0 (Kd.R kc 85 w' base (fun _ => True) (.slice Aa b.attrs.length ca) b.attrs) ∧ Aside0 (Kd.R (Kd.int .i64) 3 w' base (fun _ => True) (.slice As b.slots.length cs) b.slots) ∧ Aside0 (Kd.R (Kd.int .i64) 3 w' base (fun _ => True) (.slice Ap b.free.length cp) b.free) ∧ Aside0 (Kd.R g8 76 w' base (fun _ => True) (.slice Am M.length cm) M) ∧ Aside0 (aH w' gX (aZ b.addr b.aff b.slots (.slice Af b.free.length cf) (.slice Aa b.attrs.length ca)) 57) ∧ Aside0 (aH w' gY (da b.addr b.aff (.slice As b.slots.length cs) (.slice Ap b.free.length cp) (.slice Am M.length cm)) 62) ∧ Aside0 (aH w' gT [.int .i64 kd, .int .i64 n, .string a.f0, .string a.f1, .slice Al l.length cl, .string aff] 79) ∧ Aside0 (aH w' gZ a9 57) ∧ Aside0 (aH w' gU dG 62) ∧ Aside0 (aH w' s.1 a9 57) ∧ Aside0 (w.heap.size ≤ s.1) ∧ Aside0 (gX ≠ s.1) ∧ Aside0 (gZ ≠ s.1) ∧ Aside0 (ea w' base s.2.1 nb) ∧ Aside0 (Kd.R (Kd.int .u32) 46 w' base (fun _ => True) s.2.2 oo)) ?_ ?_
 rotate_left
 ·intro en
  refine tw 5 11 ab.out (fun K hK => ?_) (fun K hK => ?_)
  ·skip
   refine gs Try.func50 #[.agg #[.string a.f0, .string a.f1]] (jI a _) ?_
   rintro e V5 ⟨rfl, I⟩
   refine ⟨_, rfl, ?_⟩
   (try replace hV := mv I hV); (try replace dr := mv I dr); (try replace hQ := mv I hQ); replace hB := mv I hB; replace hF := mv I hF; replace hG := mv I hG; replace hS := mv I hS; replace hP := mv I hP; replace hM := mv I hM; replace hX := mv I hX; replace hY := mv I hY; replace hT := mv I hT; replace hZ := mv I hZ; replace hU := mv I hU; clear  I
   refine kn hK ⟨hX.out, hT.out⟩ (fun hHeld => ?_)
   clear hK K
   refine tw 6 11 ab.out (fun K hK => ?_) (fun K hK => ?_)
   ·skip
    refine gs Try.func49 #[.agg (aZ b.addr b.aff b.slots (.slice Af b.free.length cf) (.slice Aa b.attrs.length ca)).toArray, .int .i64 n, ej (cv a)] (HBL.out _ _ ⟨_, _, _, _, rfl, ⟨HL.out, (rr hF).1, (rr hF).2, (rr hG).1, (rr hG).2⟩⟩) ?_
    rintro e V6 ⟨v_, kX, rfl, aW, e8, I⟩
    refine ⟨_, rfl, ?_⟩
    have hV := ak (aW.lower (lb HBASE hB)); have dr := ak (Kd.R_lower e8 (lb HBASE hB)); (try replace hQ := mv I hQ); replace hB := mv I hB; replace hF := mv I hF; replace hG := mv I hG; replace hS := mv I hS; replace hP := mv I hP; replace hM := mv I hM; replace hX := mv I hX; replace hY := mv I hY; replace hT := mv I hT; replace hZ := mv I hZ; replace hU := mv I hU; clear aW e8 I
    refine kn hK ⟨hX.out, hT.out⟩ (fun hHeld => ?_)
    clear hK K
    refine pu 7 ab.out ?_
    refine pu 8 ab.out ?_
    refine pu 9 ab.out ?_
    refine pu 10 ab.out ?_
    refine on 11 ab.out (fun K hK => ?_)
    refine dM (by rfl) 57 rfl a9 bP ?_
    intro gQ oa J aa I
    have cE := ge hB J
    have bk := ne hX J
    have a7 := ne hZ J
    (try replace hV := mv I hV)
    (try replace dr := mv I dr)
    replace hB := mv I hB
    replace hF := mv I hF
    replace hG := mv I hG
    replace hS := mv I hS
    replace hP := mv I hP
    replace hM := mv I hM
    replace hX := mv I hX
    replace hY := mv I hY
    replace hT := mv I hT
    replace hZ := mv I hZ
    replace hU := mv I hU
    have hQ := ak aa
    clear J aa I
    refine kn hK ⟨hX.out, hT.out⟩ (fun hHeld => ?_)
    clear hK K
    exact nc (en ⟨gQ, v_, kX⟩ _ ⟨hB, hF, hG, hS, hP, hM, hX, hY, hT, hZ, hU, hQ, cE, bk, a7, hV, dr⟩)
   ·skip
    refine dM (by rfl) 57 rfl a9 bP ?_
    intro gQ oa J aa I
    have cE := ge hB J
    have bk := ne hX J
    have a7 := ne hZ J
    (try replace hV := mv I hV)
    (try replace dr := mv I dr)
    replace hB := mv I hB
    replace hF := mv I hF
    replace hG := mv I hG
    replace hS := mv I hS
    replace hP := mv I hP
    replace hM := mv I hM
    replace hX := mv I hX
    replace hY := mv I hY
    replace hT := mv I hT
    replace hZ := mv I hZ
    replace hU := mv I hU
    have hQ := ak aa
    clear J aa I
    refine kn hK ⟨hX.out, hT.out⟩ (fun hHeld => ?_)
    clear hK K
    refine on 6 ab.out (fun K hK => ?_)
    refine gs Try.func49 #[.agg (aZ b.addr b.aff b.slots (.slice Af b.free.length cf) (.slice Aa b.attrs.length ca)).toArray, .int .i64 n, ej (cv a)] (HBL.out _ _ ⟨_, _, _, _, rfl, ⟨HL.out, (rr hF).1, (rr hF).2, (rr hG).1, (rr hG).2⟩⟩) ?_
    rintro e V6 ⟨v_, kX, rfl, aW, e8, I⟩
    refine ⟨_, rfl, ?_⟩
    have hV := ak (aW.lower (lb HBASE hB)); have dr := ak (Kd.R_lower e8 (lb HBASE hB)); (try replace hQ := mv I hQ); replace hB := mv I hB; replace hF := mv I hF; replace hG := mv I hG; replace hS := mv I hS; replace hP := mv I hP; replace hM := mv I hM; replace hX := mv I hX; replace hY := mv I hY; replace hT := mv I hT; replace hZ := mv I hZ; replace hU := mv I hU; clear aW e8 I
    refine kn hK ⟨hX.out, hT.out⟩ (fun hHeld => ?_)
    clear hK K
    refine pu 7 ab.out ?_
    refine pu 8 ab.out ?_
    refine pu 9 ab.out ?_
    refine pu 10 ab.out ?_
    exact nc (en ⟨gQ, v_, kX⟩ _ ⟨hB, hF, hG, hS, hP, hM, hX, hY, hT, hZ, hU, hQ, cE, bk, a7, hV, dr⟩)
  ·skip
   refine dM (by rfl) 57 rfl a9 bP ?_
   intro gQ oa J aa I
   have cE := ge hB J
   have bk := ne hX J
   have a7 := ne hZ J
   (try replace hV := mv I hV)
   (try replace dr := mv I dr)
   replace hB := mv I hB
   replace hF := mv I hF
   replace hG := mv I hG
   replace hS := mv I hS
   replace hP := mv I hP
   replace hM := mv I hM
   replace hX := mv I hX
   replace hY := mv I hY
   replace hT := mv I hT
   replace hZ := mv I hZ
   replace hU := mv I hU
   have hQ := ak aa
   clear J aa I
   refine kn hK ⟨hX.out, hT.out⟩ (fun hHeld => ?_)
   clear hK K
   refine on 5 ab.out (fun K hK => ?_)
   refine gs Try.func50 #[.agg #[.string a.f0, .string a.f1]] (jI a _) ?_
   rintro e V5 ⟨rfl, I⟩
   refine ⟨_, rfl, ?_⟩
   (try replace hV := mv I hV); (try replace dr := mv I dr); (try replace hQ := mv I hQ); replace hB := mv I hB; replace hF := mv I hF; replace hG := mv I hG; replace hS := mv I hS; replace hP := mv I hP; replace hM := mv I hM; replace hX := mv I hX; replace hY := mv I hY; replace hT := mv I hT; replace hZ := mv I hZ; replace hU := mv I hU; clear  I
   refine kn hK ⟨hX.out, hT.out⟩ (fun hHeld => ?_)
   clear hK K
   refine on 6 ab.out (fun K hK => ?_)
   refine gs Try.func49 #[.agg (aZ b.addr b.aff b.slots (.slice Af b.free.length cf) (.slice Aa b.attrs.length ca)).toArray, .int .i64 n, ej (cv a)] (HBL.out _ _ ⟨_, _, _, _, rfl, ⟨HL.out, (rr hF).1, (rr hF).2, (rr hG).1, (rr hG).2⟩⟩) ?_
   rintro e V6 ⟨v_, kX, rfl, aW, e8, I⟩
   refine ⟨_, rfl, ?_⟩
   have hV := ak (aW.lower (lb HBASE hB)); have dr := ak (Kd.R_lower e8 (lb HBASE hB)); (try replace hQ := mv I hQ); replace hB := mv I hB; replace hF := mv I hF; replace hG := mv I hG; replace hS := mv I hS; replace hP := mv I hP; replace hM := mv I hM; replace hX := mv I hX; replace hY := mv I hY; replace hT := mv I hT; replace hZ := mv I hZ; replace hU := mv I hU; clear aW e8 I
   refine kn hK ⟨hX.out, hT.out⟩ (fun hHeld => ?_)
   clear hK K
   refine pu 7 ab.out ?_
   refine pu 8 ab.out ?_
   refine pu 9 ab.out ?_
   refine pu 10 ab.out ?_
   exact nc (en ⟨gQ, v_, kX⟩ _ ⟨hB, hF, hG, hS, hP, hM, hX, hY, hT, hZ, hU, hQ, cE, bk, a7, hV, dr⟩)
 intro s w' hFF; obtain ⟨gQ, v_, kX⟩ := s; simp only at hFF; obtain ⟨hB, hF, hG, hS, hP, hM, hX, hY, hT, hZ, hU, hQ, cE, bk, a7, hV, dr⟩ := hFF; have aW := hV.out; obtain ⟨iD, oP, oQ, rfl, di, dO⟩ := aW; obtain ⟨A8, c8, rfl⟩ := Kd.R_slice di; obtain ⟨A9, c9, rfl⟩ := Kd.R_slice dO; obtain ⟨Ao, co, rfl⟩ := Kd.R_slice dr.out; have hC := ak di; have hD := ak dO; have hO := dr; clear hV dr iD di dO
 refine nj ?_
 refine ow 12 ab.out (fun K hK => ?_)
 refine bA (by rfl) rfl 57 (.tmp 10) (.tmp 53) rfl gQ (aZ nb.addr nb.aff nb.slots (.slice A8 nb.free.length c8) (.slice A9 nb.attrs.length c9)) rfl rfl 57 _ hQ.out 68 (by kernel_rfl) (ag _ _ _ _ _ HNL.out) rfl (b4 _ _ _ _ _ rfl rfl) ?_
 intro L5 aa J; replace hB := gb hB cE J; replace hF := gr hF hQ J; replace hG := gr hG hQ J; replace hS := gr hS hQ J; replace hP := gr hP hQ J; replace hM := gr hM hQ J; replace hX := gn hX bk J; replace hY := gx hY hQ J; replace hT := gx hT hQ J; replace hZ := gn hZ a7 J; replace hU := gx hU hQ J; replace hC := gr hC hQ J; replace hD := gr hD hQ J; replace hO := gr hO hQ J; replace hQ := ak (aa); clear aa J
 refine hK.out _ _ ⟨hX.out, hT.out⟩ (fun hHeld => ?_)
 clear hK K
 refine pu 13 ab.out ?_
 refine pu 14 ab.out ?_
 refine dn ab.out ?_
 clear hHeld
 have gR := hT.out.cell 1 _ rfl
 go_wp2_with (first
  | ((with_reducible refine ax (N := 57) rfl ?_); refine eQ rfl 76 (.tmp 56) rfl gT 2 rfl 79 _ [.string a.f0, .string a.f1] _ hT.out ui Try.underlying76 rfl (by kernel_rfl) ?_)
  | (go_at_call 60; refine (HMY.out _).mono ?_; rintro e qC ⟨rfl, I⟩; have iK := mv I hB; have jr := mv I hF; have jo := mv I hG; have ic := mv I hS; have ie := mv I hP; have ig := mv I hM; have jk := mv I hX; have ib := mv I hY; have mV := mv I hT; have ji := mv I hZ; have jl := mv I hU; have jm := mv I hQ; have jv := mv I hC; have jt := mv I hD; have rE := mv I hO; have o9 := mV.out.cell 1 _ rfl; clear I hB hF hG hS hP hM hX hY hT hZ hU hQ hC hD hO gR))
 clear o9
 have aj : Below qC.heap.size qC qC.drew := bo (Below.refl _ _)
 have iW := mv aj iK; have jq := mv aj jr; have jn := mv aj jo; have iH := mv aj ic; have iI := mv aj ie; have iJ := mv aj ig; have iS := mv aj jk; have iu := mv aj ib; have pF := mv aj mV; have iR := mv aj ji; have iU := mv aj jl; have iV := mv aj jm; have ju := mv aj jv; have js := mv aj jt; have rD := mv aj rE
 clear aj iK jr jo ic ie ig jk ib mV ji jl jm jv jt rE
 have hB := iW
 have hF := jq
 have hG := jn
 have hS := iH
 have hP := iI
 have hM := iJ
 have hX := iS
 have hY := iu
 have hT := pF
 have hZ := iR
 have hU := iU
 have hQ := iV
 have hC := ju
 have hD := js
 have hO := rD
 clear iW jq jn iH iI iJ iS iu pF iR iU iV ju js rD
 refine cW (n := 16) (S := fun w' => aH w' gX (aZ b.addr b.aff b.slots (.slice Af b.free.length cf) (.slice Aa b.attrs.length ca)) 57 ∧ aH w' gY (da b.addr b.aff (.slice As b.slots.length cs) (.slice Ap b.free.length cp) (.slice Am M.length cm)) 62 ∧ aH w' gQ (aZ nb.addr nb.aff nb.slots (.slice A8 nb.free.length c8) (.slice A9 nb.attrs.length c9)) 57) (ds := []) #[false, false, false, false, false, false, false, false, false, false, false, false, false, false, false, false] (by kernel_rfl) rfl rfl ⟨hX.out, hY.out, hQ.out⟩ (fun hHeld => ?_); refine bK sg.tab9 sg.bits9 (fun ab bj => ?_)
 refine tk 0 ab.out bj.out hHeld ?_ (hv := by exact fun _ aU => aI 57 (.tmp 3) rfl gX rfl _ _ _ aU.1 Try.underlying57 rfl HLB.out)
 refine tk 1 ab.out bj.out hHeld ?_ (hv := by exact fun _ aU => aI 62 (.tmp 4) rfl gY rfl _ _ _ aU.2.1 Try.underlying62 rfl (by kernel_rfl))
 refine pu 2 ab.out ?_
 refine pu 3 ab.out ?_
 refine pu 4 ab.out ?_
 refine tk 5 ab.out bj.out hHeld ?_ (hv := by exact fun _ aU => aI 57 (.tmp 10) rfl gQ rfl _ _ _ aU.2.2 Try.underlying57 rfl (HLN _ _ _ _))
 refine on 6 ab.out (fun K hK => ?_)
 refine gs Try.func43 #[.agg (aZ nb.addr nb.aff nb.slots (.slice A8 nb.free.length c8) (.slice A9 nb.attrs.length c9)).toArray] (HZR.out _ _ ⟨_, _, _, _, rfl, ⟨HNL.out, (rr hC).1, (rr hC).2, (rr hD).1, (rr hD).2⟩⟩) ?_
 rintro e V6 ⟨rfl, I⟩
 refine ⟨_, rfl, ?_⟩
 replace hB := mv I hB; replace hF := mv I hF; replace hG := mv I hG; replace hS := mv I hS; replace hP := mv I hP; replace hM := mv I hM; replace hX := mv I hX; replace hY := mv I hY; replace hT := mv I hT; replace hZ := mv I hZ; replace hU := mv I hU; replace hQ := mv I hQ; replace hC := mv I hC; replace hD := mv I hD; replace hO := mv I hO
 refine kn hK ⟨hX.out, hY.out, hQ.out⟩ (fun hHeld => ?_)
 clear hK K
 refine pu 7 ab.out ?_
 refine pu 8 ab.out ?_
 refine pu 9 ab.out ?_
 refine pu 10 ab.out ?_
 refine pu 11 ab.out ?_
 refine pu 12 ab.out ?_
 refine ow 13 ab.out (fun K hK => ?_)
 refine bA (by rfl) rfl 57 (.tmp 6) (.tmp 65) rfl gZ (aZ b.addr b.aff b.slots (.slice Af b.free.length cf) (.slice Aa b.attrs.length ca)) rfl rfl 57 _ hZ.out 68 (by kernel_rfl) (ag _ _ _ _ _ HL.out) rfl (b4 _ _ _ _ _ rfl rfl) ?_
 intro Ox aa J; replace hB := gb hB bN J; replace hF := gr hF hZ J; replace hG := gr hG hZ J; replace hS := gr hS hZ J; replace hP := gr hP hZ J; replace hM := gr hM hZ J; replace hX := gn hX aG J; replace hY := gx hY hZ J; replace hT := gx hT hZ J; replace hU := gx hU hZ J; replace hQ := gm hQ a7 J; replace hC := gr hC hZ J; replace hD := gr hD hZ J; replace hO := gr hO hZ J; replace hZ := ak (aa); clear aa J
 refine hK.out _ _ ⟨hX.out, hY.out, hQ.out⟩ (fun hHeld => ?_)
 clear hK K
 refine ow 14 ab.out (fun K hK => ?_)
 refine bA (by rfl) rfl 62 (.tmp 7) (.tmp 66) rfl gU (da b.addr b.aff (.slice As b.slots.length cs) (.slice Ap b.free.length cp) (.slice Am M.length cm)) rfl rfl 62 _ hU.out 5 (by kernel_rfl) rfl rfl (dJ _ _ rfl rfl rfl) ?_
 intro Ow aa J; replace hB := gb hB fu J; replace hF := gr hF hU J; replace hG := gr hG hU J; replace hS := gr hS hU J; replace hP := gr hP hU J; replace hM := gr hM hU J; replace hX := gx hX hU J; replace hY := gn hY dw J; replace hT := gx hT hU J; replace hZ := gx hZ hU J; replace hQ := gx hQ hU J; replace hC := gr hC hU J; replace hD := gr hD hU J; replace hO := gr hO hU J; replace hU := ak (aa); clear aa J
 refine hK.out _ _ ⟨hX.out, hY.out, hQ.out⟩ (fun hHeld => ?_)
 clear hK K
 refine pu 15 ab.out ?_
 refine dn ab.out ?_
 clear hHeld
 go_wp2_with fail
 refine bodyPost_ret (eK rfl _ _ _ gZ gU 57 62 _ _ _ _ rfl hZ.out rfl Try.underlying57 (by first | exact HLB.out | exact HLN _ _ _ _) rfl hU.out rfl Try.underlying62 (by kernel_rfl)) rfl ⟨_, _, b, rfl, ?_, ?_, ?_, hB.out⟩
 ·exact HG.out
 ·exact ⟨HL.out, _, _, rfl, hF.out, hG.out⟩
 ·exact ⟨_, _, _, rfl, hS.out, hP.out, by rw [← HM.out]; exact hM.out⟩
set_option maxHeartbeats 16000000 in
set_option maxRecDepth 100000 in
theorem Kw (b : Bk) (hg : RG b) (kd : Int) (hkd : kd = 0 ∨ kd = 1) (n : Int) (hn : n < 9223372036854775808) (a : kz) (e7 : a.f0.size ≤ 9223372036854775807) (fE : a.f1.size ≤ 9223372036854775807) (l : List Int) (hu : ∀ x ∈ l, 0 ≤ x ∧ x < 4294967296) (hlm : l.length ≤ 9223372036854775807) (Al : Option Addr) (cl : Nat) (hcl : l.length ≤ cl) (aff : ByteArray) (hza : aff.size ≤ 9223372036854775807) (hma : eo (cv a) = true) (lP : n < 0) (v v2 : Value) (w : World) (base : Nat) (hbase : base ≤ w.heap.size) (hO : ea w base v b) (hR : eG w base v2 b) (hC : Kd.C (Kd.int .u32) w Al l.length l) :
  Calls Try.prog 47 #[v, v2, .agg #[.int .i64 kd, .int .i64 n, .string a.f0, .string a.f1, .slice Al l.length cl, .string aff]] w fun e w' => ∃ v1 v2 b', e = .returned (.tuple #[v1, v2, .bool true]) ∧ RG b' ∧ ea w' base v1 b' ∧ eG w' base v2 b' ∧ Below w.heap.size w w' := by
 obtain ⟨hl, vf, va, rfl, hf, ha⟩ := hO
 obtain ⟨vs, vp, vm, rfl, hs, hp, hm⟩ := hR
 obtain ⟨Af, cf, rfl⟩ := Kd.R_slice hf
 obtain ⟨Aa, ca, rfl⟩ := Kd.R_slice ha
 obtain ⟨As, cs, rfl⟩ := Kd.R_slice hs
 obtain ⟨Ap, cp, rfl⟩ := Kd.R_slice hp
 obtain ⟨M, hM⟩ : ∃ M, M = b.attrs.map vc := ⟨_, rfl⟩
 rw [← hM] at hm
 obtain ⟨Am, cm, rfl⟩ := Kd.R_slice hm
 have HL := ak hl
 have HM := ak hM
 have bw := ak hf
 have dY := ak ha
 have aX := ak hs
 have dT := ak hp
 have bD := ak hm
 have HG := ak hg
 have ae := ak (Below.refl w.heap.size w)
 have HBASE := ak hbase
 have HLB := ak (cg (aZ b.addr b.aff b.slots (.slice Af b.free.length cf) (.slice Aa b.attrs.length ca)) (ag _ _ _ _ _ HL.out))
 obtain ⟨lt, hlt⟩ : ∃ lt, lt = l.take 80 := ⟨_, rfl⟩
 have hut : ∀ x ∈ lt, 0 ≤ x ∧ x < 4294967296 := fun x hx => hu x (by rw [hlt] at hx; exact List.mem_of_mem_take hx)
 have hll : lt.length = min 80 l.length := by rw [hlt, List.length_take]
 have HCL := ak hcl
 have HLL := ak hll
 have HC := ak hC
 have HCT := ak (fun W (I : Below w.heap.size w W) => (show Kd.C (Kd.int .u32) W Al lt.length lt by
  rcases Nat.lt_or_ge 80 l.length with h | h
  ·have h_ := Kd.C_take (m := 80) (Kd.C_below hC I) (by omega)
   rw [← hlt] at h_
   exact h_
  ·have h_ := Kd.C_below hC I
   have e : lt = l := by rw [hlt, List.take_of_length_le h]
   rw [e]
   exact h_))
 have hbl := fun v w h => pB b hg.ok n hn (cv a) v w h
 have hok : lH b n (cv a) = false := by unfold lH; rw [hma, decide_eq_false (by omega)]; simp
 rw [hok] at hbl
 simp only [Bool.false_eq_true, if_false, if_true] at hbl
 have HMY := ak (fun w => qj a e7 fE w)
 rw [hma] at HMY
 have n0 : decide (n < 0) = true := by simp; omega
 obtain ⟨nb, hnb⟩ : ∃ nb, nb = jP := ⟨_, rfl⟩
 have hnl : jP.slots.length = 64 := rfl
 rw [← hnb] at hbl hnl
 have HNB := ak hnb
 have HNL := ak hnl
 have HLN := fun A8 c8 A9 c9 => cg (aZ nb.addr nb.aff nb.slots (.slice A8 nb.free.length c8) (.slice A9 nb.attrs.length c9)) (ag _ _ _ _ _ HNL.out)
 have HZR := ak (fun v w h => oc v w (by rw [← HNB.out]; exact h))
 obtain ⟨oo, hoo⟩ : ∃ oo : List Int, oo = [] := ⟨_, rfl⟩
 rw [← hoo] at hbl
 have o0 : decide ((oo.length : Int) = 0) = true := by rw [hoo]; rfl
 have o1 : ((oo.length : Int) == 0) = true := by rw [hoo]; rfl
 have o2 : ((oo.length : Int) = 0) = True := by rw [hoo]; simp
 have o3 : (oo.length = 0) = True := by rw [hoo]; simp
 have o4 : (oo = []) = True := eq_true hoo
 have HBL := ak hbl
 clear hbl hnb hnl hma hok hoo lP
 have HKD := ak hkd
 clear hkd
 clear hl hM hf ha hs hp hm hbase hC hu hut hll hcl hlt hg
 go_enter Try.func47, Try.ntmps47
 go_upto_if 37 with (first
  | (refine aE rfl 57 (.tmp 0) rfl _ rfl ?_; intro gX W1 J aa I; have bQ := ge ae J; have ai := ak (ae.out.trans (I.mono ae.out.size)); have bp := mv I bw; have dp := mv I dY; have bd := mv I aX; have cZ := mv I dT; have bH := mv I bD; have ah := ak (aa); clear J aa I ae bw dY aX dT bD)
  | (refine aE rfl 62 (.tmp 1) rfl _ rfl ?_; intro gY W2 J aa I; have iX := ge ai J; have fB := ne ah J; have av := mv I ai; have bT := mv I bp; have dF := mv I dp; have bC := mv I bd; have dd := mv I cZ; have b9 := mv I bH; have au := mv I ah; have b8 := ak (aa); clear J aa I ai bp dp bd cZ bH ah)
  | (refine aE rfl 79 (.tmp 2) rfl _ rfl ?_; intro gT W3 J aa I; have j9 := ge av J; have gW := ne au J; have ir := ne b8 J; have aD := mv I av; have cj := mv I bT; have dQ := mv I dF; have bU := mv I bC; have dA := mv I dd; have cN := mv I b9; have aA := mv I au; have b7 := mv I b8; have dK := ak (aa); clear J aa I av bT dF bC dd b9 au b8)
  | (refine aw (some 6) rfl rfl 57 rfl a9 bP ?_; intro gZ W4 J aa I; have bN := ge aD J; have aG := ne aA J; have fM := ne b7 J; have jC := ne dK J; have aY := mv I aD; have ch := mv I cj; have dE := mv I dQ; have cx := mv I bU; have dX := mv I dA; have cR := mv I cN; have aV := mv I aA; have bZ := mv I b7; have dP := mv I dK; have a8 := ak (aa); clear J aa I aD cj dQ bU dA cN aA b7 dK)
  | (refine aw (some 7) rfl rfl 62 rfl dG (fun _ => by kernel_rfl) ?_; intro gU W5 J aa I; have fu := ge aY J; have gC := ne aV J; have dw := ne bZ J; have jD := ne dP J; have gB := ne a8 J; have bf := mv I aY; have cb := mv I ch; have de := mv I dE; have cJ := mv I cx; have ee := mv I dX; have cG := mv I cR; have bb := mv I aV; have cB := mv I bZ; have bx := mv I dP; have bu := mv I a8; have eH := ak (aa); have jA := bx.out.cell 0 _ rfl; have gR := bx.out.cell 1 _ rfl; have jz := bx.out.cell 2 _ rfl; have jy := bx.out.cell 3 _ rfl; have jx := bx.out.cell 4 _ rfl; have gv := bx.out.cell 5 _ rfl; clear J aa I aY ch dE cx dX cR aV bZ dP a8))
 go_cut [9] from 38 to 39 (fun s9 wx => s9 = .slice Al lt.length cl ∧ W5 = wx)
 case first =>
  rcases Nat.lt_or_ge 80 l.length with k8 | k8
  ·have kZ : decide ((80 : Int) < (l.length : Int)) = true := by simp; omega
   have tJ : (((0 : Int) ≤ 80 ∧ (80 : Int) ≤ (cl : Int)) = True) := eq_true ⟨by omega, by have := HCL.out; omega⟩
   have tI : (((80 : Int) ≤ (cl : Int)) = True) := eq_true (by have := HCL.out; omega)
   go_wp2_with fail
   go_meet
   exact ⟨by rw [HLL.out, Nat.min_eq_left (by omega)], rfl⟩
  ·have kZ : decide ((80 : Int) < (l.length : Int)) = false := by simp; omega
   go_wp2_with fail
   go_meet
   exact ⟨by rw [HLL.out, Nat.min_eq_right (by omega)], rfl⟩
 case rest =>
 obtain ⟨fY, fX⟩ := hcut
 subst fY
 subst fX
 go_upto_if 42 with fail
 go_cut [42] from 43 to 44 (fun sY wx => sY = .bool true ∧ W5 = wx)
 case first =>
  rcases HKD.out with cD | cD
  ·skip
   have yX : (kd = 0) = True := eq_true (by omega)
   have EB : decide (kd = 0) = true := by simp; omega
   have Et : (kd == 0) = true := by simp; omega
   clear cD
   go_wp2_with fail
   go_meet
   exact ⟨by first | rfl | simp [yX], rfl⟩
  ·skip
   have yX : (kd = 0) = False := eq_false (by omega)
   have EB : decide (kd = 0) = false := by simp; omega
   have Et : (kd == 0) = false := by simp; omega
   have ED : (kd = 1) = True := eq_true (by omega)
   have Of : decide (kd = 1) = true := by simp; omega
   have Oc : (kd == 1) = true := by simp; omega
   clear cD
   go_wp2_with fail
   go_meet
   exact ⟨by first | rfl | simp [ED], rfl⟩
 case rest =>
 obtain ⟨fY, fX⟩ := hcut
 subst fY
 subst fX
 go_wp2_with fail
 have aj : Below W5.heap.size W5 W5.drew := bo (Below.refl _ _)
 have bG := mv aj bf; have cQ := mv aj cb; have dt := mv aj de; have cY := mv aj cJ; have ef := mv aj ee; have dD := mv aj cG; have bh := mv aj bb; have cX := mv aj cB; have fh := mv aj bx; have bS := mv aj bu; have dW := mv aj eH
 clear aj bf cb de cJ ee cG bb cB bx bu eH jA gR jz jy jx gv
 have hB := bG
 have hF := cQ
 have hG := dt
 have hS := cY
 have hP := ef
 have hM := dD
 have hX := bh
 have hY := cX
 have hT := fh
 have hZ := bS
 have hU := dW
 clear bG cQ dt cY ef dD bh cX fh bS dW
 refine cW (n := 15) (S := fun w' => aH w' gX (aZ b.addr b.aff b.slots (.slice Af b.free.length cf) (.slice Aa b.attrs.length ca)) 57 ∧ aH w' gT [.int .i64 kd, .int .i64 n, .string a.f0, .string a.f1, .slice Al l.length cl, .string aff] 79) (ds := []) #[false, false, false, false, false, false, false, false, false, false, false, false, false, false, false] (by kernel_rfl) rfl rfl ⟨hX.out, hT.out⟩ (fun hHeld => ?_); refine bK o8.tab7 o8.bits7 (fun ab bj => ?_)
 refine tk 0 ab.out bj.out hHeld ?_ (hv := by exact fun _ aU => aI 57 (.tmp 3) rfl gX rfl _ _ _ aU.1 Try.underlying57 rfl HLB.out)
 refine pu 1 ab.out ?_
 refine tk 2 ab.out bj.out hHeld ?_ (hv := by intro w' aU; have Bl := aU.2.cell 1 _ rfl; go_simp; with_reducible rfl)
 refine pu 3 ab.out ?_
 refine tk 4 ab.out bj.out hHeld ?_ (hv := by exact fun _ aU => nw 76 (.tmp 49) rfl gT 2 rfl _ _ [.string a.f0, .string a.f1] _ aU.2 ui Try.underlying76 rfl (by kernel_rfl))
 refine pw (σ := Nat × Value × Value) 3 #[true, true, true, true, true, true, true, true, true, true, true, true, false, false, false] (fun s => [(51, ej (cv a)), (52, .tuple #[s.2.1, s.2.2, .int .i64 1]), (45, .tuple #[s.2.1, s.2.2, .int .i64 1]), (53, s.2.1), (54, s.2.2), (55, .int .i64 1), (10, .pointer (some ⟨s.1, 0, none⟩))]) (fun s w' => Aside0 (Below w.heap.size w w') ∧ Aside0 (Kd.R (Kd.int .u8) 5 w' base (fun _ => True) (.slice Af b.free.length cf) b.free) ∧ Aside0 (Kd.R kc 85 w' base (fun _ => True) (.slice Aa b.attrs.length ca) b.attrs) ∧ Aside0 (Kd.R (Kd.int .i64) 3 w' base (fun _ => True) (.slice As b.slots.length cs) b.slots) ∧ Aside0 (Kd.R (Kd.int .i64) 3 w' base (fun _ => True) (.slice Ap b.free.length cp) b.free) ∧ Aside0 (Kd.R g8 76 w' base (fun _ => True) (.slice Am M.length cm) M) ∧ Aside0 (aH w' gX (aZ b.addr b.aff b.slots (.slice Af b.free.length cf) (.slice Aa b.attrs.length ca)) 57) ∧ Aside0 (aH w' gY (da b.addr b.aff (.slice As b.slots.length cs) (.slice Ap b.free.length cp) (.slice Am M.length cm)) 62) ∧ Aside0 (aH w' gT [.int .i64 kd, .int .i64 n, .string a.f0, .string a.f1, .slice Al l.length cl, .string aff] 79) ∧ Aside0 (aH w' gZ a9 57) ∧ Aside0 (aH w' gU dG 62) ∧ Aside0 (aH w' s.1 a9 57) ∧ Aside0 (w.heap.size ≤ s.1) ∧ Aside0 (gX ≠ s.1) ∧ Aside0 (gZ ≠ s.1) ∧ Aside0 (ea w' base s.2.1 nb) ∧ Aside0 (Kd.R (Kd.int .u32) 46 w' base (fun _ => True) s.2.2 oo)) ?_ ?_
 rotate_left
 ·intro en
  refine tw 5 11 ab.out (fun K hK => ?_) (fun K hK => ?_)
  ·skip
   refine gs Try.func50 #[.agg #[.string a.f0, .string a.f1]] (jI a _) ?_
   rintro e V5 ⟨rfl, I⟩
   refine ⟨_, rfl, ?_⟩
   (try replace hV := mv I hV); (try replace dr := mv I dr); (try replace hQ := mv I hQ); replace hB := mv I hB; replace hF := mv I hF; replace hG := mv I hG; replace hS := mv I hS; replace hP := mv I hP; replace hM := mv I hM; replace hX := mv I hX; replace hY := mv I hY; replace hT := mv I hT; replace hZ := mv I hZ; replace hU := mv I hU; clear  I
   refine kn hK ⟨hX.out, hT.out⟩ (fun hHeld => ?_)
   clear hK K
   refine tw 6 11 ab.out (fun K hK => ?_) (fun K hK => ?_)
   ·skip
    refine gs Try.func49 #[.agg (aZ b.addr b.aff b.slots (.slice Af b.free.length cf) (.slice Aa b.attrs.length ca)).toArray, .int .i64 n, ej (cv a)] (HBL.out _ _ ⟨_, _, _, _, rfl, ⟨HL.out, (rr hF).1, (rr hF).2, (rr hG).1, (rr hG).2⟩⟩) ?_
    rintro e V6 ⟨v_, kX, rfl, aW, e8, I⟩
    refine ⟨_, rfl, ?_⟩
    have hV := ak (aW.lower (lb HBASE hB)); have dr := ak (Kd.R_lower e8 (lb HBASE hB)); (try replace hQ := mv I hQ); replace hB := mv I hB; replace hF := mv I hF; replace hG := mv I hG; replace hS := mv I hS; replace hP := mv I hP; replace hM := mv I hM; replace hX := mv I hX; replace hY := mv I hY; replace hT := mv I hT; replace hZ := mv I hZ; replace hU := mv I hU; clear aW e8 I
    refine kn hK ⟨hX.out, hT.out⟩ (fun hHeld => ?_)
    clear hK K
    refine pu 7 ab.out ?_
    refine pu 8 ab.out ?_
    refine pu 9 ab.out ?_
    refine pu 10 ab.out ?_
    refine on 11 ab.out (fun K hK => ?_)
    refine dM (by rfl) 57 rfl a9 bP ?_
    intro gQ oa J aa I
    have cE := ge hB J
    have bk := ne hX J
    have a7 := ne hZ J
    (try replace hV := mv I hV)
    (try replace dr := mv I dr)
    replace hB := mv I hB
    replace hF := mv I hF
    replace hG := mv I hG
    replace hS := mv I hS
    replace hP := mv I hP
    replace hM := mv I hM
    replace hX := mv I hX
    replace hY := mv I hY
    replace hT := mv I hT
    replace hZ := mv I hZ
    replace hU := mv I hU
    have hQ := ak aa
    clear J aa I
    refine kn hK ⟨hX.out, hT.out⟩ (fun hHeld => ?_)
    clear hK K
    exact nc (en ⟨gQ, v_, kX⟩ _ ⟨hB, hF, hG, hS, hP, hM, hX, hY, hT, hZ, hU, hQ, cE, bk, a7, hV, dr⟩)
   ·skip
    refine dM (by rfl) 57 rfl a9 bP ?_
    intro gQ oa J aa I
    have cE := ge hB J
    have bk := ne hX J
    have a7 := ne hZ J
    (try replace hV := mv I hV)
    (try replace dr := mv I dr)
    replace hB := mv I hB
    replace hF := mv I hF
    replace hG := mv I hG
    replace hS := mv I hS
    replace hP := mv I hP
    replace hM := mv I hM
    replace hX := mv I hX
    replace hY := mv I hY
    replace hT := mv I hT
    replace hZ := mv I hZ
    replace hU := mv I hU
    have hQ := ak aa
    clear J aa I
    refine kn hK ⟨hX.out, hT.out⟩ (fun hHeld => ?_)
    clear hK K
    refine on 6 ab.out (fun K hK => ?_)
    refine gs Try.func49 #[.agg (aZ b.addr b.aff b.slots (.slice Af b.free.length cf) (.slice Aa b.attrs.length ca)).toArray, .int .i64 n, ej (cv a)] (HBL.out _ _ ⟨_, _, _, _, rfl, ⟨HL.out, (rr hF).1, (rr hF).2, (rr hG).1, (rr hG).2⟩⟩) ?_
    rintro e V6 ⟨v_, kX, rfl, aW, e8, I⟩
    refine ⟨_, rfl, ?_⟩
    have hV := ak (aW.lower (lb HBASE hB)); have dr := ak (Kd.R_lower e8 (lb HBASE hB)); (try replace hQ := mv I hQ); replace hB := mv I hB; replace hF := mv I hF; replace hG := mv I hG; replace hS := mv I hS; replace hP := mv I hP; replace hM := mv I hM; replace hX := mv I hX; replace hY := mv I hY; replace hT := mv I hT; replace hZ := mv I hZ; replace hU := mv I hU; clear aW e8 I
    refine kn hK ⟨hX.out, hT.out⟩ (fun hHeld => ?_)
    clear hK K
    refine pu 7 ab.out ?_
    refine pu 8 ab.out ?_
    refine pu 9 ab.out ?_
    refine pu 10 ab.out ?_
    exact nc (en ⟨gQ, v_, kX⟩ _ ⟨hB, hF, hG, hS, hP, hM, hX, hY, hT, hZ, hU, hQ, cE, bk, a7, hV, dr⟩)
  ·skip
   refine dM (by rfl) 57 rfl a9 bP ?_
   intro gQ oa J aa I
   have cE := ge hB J
   have bk := ne hX J
   have a7 := ne hZ J
   (try replace hV := mv I hV)
   (try replace dr := mv I dr)
   replace hB := mv I hB
   replace hF := mv I hF
   replace hG := mv I hG
   replace hS := mv I hS
   replace hP := mv I hP
   replace hM := mv I hM
   replace hX := mv I hX
   replace hY := mv I hY
   replace hT := mv I hT
   replace hZ := mv I hZ
   replace hU := mv I hU
   have hQ := ak aa
   clear J aa I
   refine kn hK ⟨hX.out, hT.out⟩ (fun hHeld => ?_)
   clear hK K
   refine on 5 ab.out (fun K hK => ?_)
   refine gs Try.func50 #[.agg #[.string a.f0, .string a.f1]] (jI a _) ?_
   rintro e V5 ⟨rfl, I⟩
   refine ⟨_, rfl, ?_⟩
   (try replace hV := mv I hV); (try replace dr := mv I dr); (try replace hQ := mv I hQ); replace hB := mv I hB; replace hF := mv I hF; replace hG := mv I hG; replace hS := mv I hS; replace hP := mv I hP; replace hM := mv I hM; replace hX := mv I hX; replace hY := mv I hY; replace hT := mv I hT; replace hZ := mv I hZ; replace hU := mv I hU; clear  I
   refine kn hK ⟨hX.out, hT.out⟩ (fun hHeld => ?_)
   clear hK K
   refine on 6 ab.out (fun K hK => ?_)
   refine gs Try.func49 #[.agg (aZ b.addr b.aff b.slots (.slice Af b.free.length cf) (.slice Aa b.attrs.length ca)).toArray, .int .i64 n, ej (cv a)] (HBL.out _ _ ⟨_, _, _, _, rfl, ⟨HL.out, (rr hF).1, (rr hF).2, (rr hG).1, (rr hG).2⟩⟩) ?_
   rintro e V6 ⟨v_, kX, rfl, aW, e8, I⟩
   refine ⟨_, rfl, ?_⟩
   have hV := ak (aW.lower (lb HBASE hB)); have dr := ak (Kd.R_lower e8 (lb HBASE hB)); (try replace hQ := mv I hQ); replace hB := mv I hB; replace hF := mv I hF; replace hG := mv I hG; replace hS := mv I hS; replace hP := mv I hP; replace hM := mv I hM; replace hX := mv I hX; replace hY := mv I hY; replace hT := mv I hT; replace hZ := mv I hZ; replace hU := mv I hU; clear aW e8 I
   refine kn hK ⟨hX.out, hT.out⟩ (fun hHeld => ?_)
   clear hK K
   refine pu 7 ab.out ?_
   refine pu 8 ab.out ?_
   refine pu 9 ab.out ?_
   refine pu 10 ab.out ?_
   exact nc (en ⟨gQ, v_, kX⟩ _ ⟨hB, hF, hG, hS, hP, hM, hX, hY, hT, hZ, hU, hQ, cE, bk, a7, hV, dr⟩)
 intro s w' hFF; obtain ⟨gQ, v_, kX⟩ := s; simp only at hFF; obtain ⟨hB, hF, hG, hS, hP, hM, hX, hY, hT, hZ, hU, hQ, cE, bk, a7, hV, dr⟩ := hFF; have aW := hV.out; obtain ⟨iD, oP, oQ, rfl, di, dO⟩ := aW; obtain ⟨A8, c8, rfl⟩ := Kd.R_slice di; obtain ⟨A9, c9, rfl⟩ := Kd.R_slice dO; obtain ⟨Ao, co, rfl⟩ := Kd.R_slice dr.out; have hC := ak di; have hD := ak dO; have hO := dr; clear hV dr iD di dO
 refine nj ?_
 refine ow 12 ab.out (fun K hK => ?_)
 refine bA (by rfl) rfl 57 (.tmp 10) (.tmp 53) rfl gQ (aZ nb.addr nb.aff nb.slots (.slice A8 nb.free.length c8) (.slice A9 nb.attrs.length c9)) rfl rfl 57 _ hQ.out 68 (by kernel_rfl) (ag _ _ _ _ _ HNL.out) rfl (b4 _ _ _ _ _ rfl rfl) ?_
 intro L5 aa J; replace hB := gb hB cE J; replace hF := gr hF hQ J; replace hG := gr hG hQ J; replace hS := gr hS hQ J; replace hP := gr hP hQ J; replace hM := gr hM hQ J; replace hX := gn hX bk J; replace hY := gx hY hQ J; replace hT := gx hT hQ J; replace hZ := gn hZ a7 J; replace hU := gx hU hQ J; replace hC := gr hC hQ J; replace hD := gr hD hQ J; replace hO := gr hO hQ J; replace hQ := ak (aa); clear aa J
 refine hK.out _ _ ⟨hX.out, hT.out⟩ (fun hHeld => ?_)
 clear hK K
 refine pu 13 ab.out ?_
 refine pu 14 ab.out ?_
 refine dn ab.out ?_
 clear hHeld
 have gR := hT.out.cell 1 _ rfl
 go_wp2_with (first
  | ((with_reducible refine ax (N := 57) rfl ?_); refine eQ rfl 76 (.tmp 56) rfl gT 2 rfl 79 _ [.string a.f0, .string a.f1] _ hT.out ui Try.underlying76 rfl (by kernel_rfl) ?_)
  | (go_at_call 60; refine (HMY.out _).mono ?_; rintro e qC ⟨rfl, I⟩; have iK := mv I hB; have jr := mv I hF; have jo := mv I hG; have ic := mv I hS; have ie := mv I hP; have ig := mv I hM; have jk := mv I hX; have ib := mv I hY; have mV := mv I hT; have ji := mv I hZ; have jl := mv I hU; have jm := mv I hQ; have jv := mv I hC; have jt := mv I hD; have rE := mv I hO; have o9 := mV.out.cell 1 _ rfl; clear I hB hF hG hS hP hM hX hY hT hZ hU hQ hC hD hO gR))
 clear o9
 have aj : Below qC.heap.size qC qC.drew := bo (Below.refl _ _)
 have iW := mv aj iK; have jq := mv aj jr; have jn := mv aj jo; have iH := mv aj ic; have iI := mv aj ie; have iJ := mv aj ig; have iS := mv aj jk; have iu := mv aj ib; have pF := mv aj mV; have iR := mv aj ji; have iU := mv aj jl; have iV := mv aj jm; have ju := mv aj jv; have js := mv aj jt; have rD := mv aj rE
 clear aj iK jr jo ic ie ig jk ib mV ji jl jm jv jt rE
 have hB := iW
 have hF := jq
 have hG := jn
 have hS := iH
 have hP := iI
 have hM := iJ
 have hX := iS
 have hY := iu
 have hT := pF
 have hZ := iR
 have hU := iU
 have hQ := iV
 have hC := ju
 have hD := js
 have hO := rD
 clear iW jq jn iH iI iJ iS iu pF iR iU iV ju js rD
 refine cW (n := 16) (S := fun w' => aH w' gX (aZ b.addr b.aff b.slots (.slice Af b.free.length cf) (.slice Aa b.attrs.length ca)) 57 ∧ aH w' gY (da b.addr b.aff (.slice As b.slots.length cs) (.slice Ap b.free.length cp) (.slice Am M.length cm)) 62 ∧ aH w' gQ (aZ nb.addr nb.aff nb.slots (.slice A8 nb.free.length c8) (.slice A9 nb.attrs.length c9)) 57) (ds := []) #[false, false, false, false, false, false, false, false, false, false, false, false, false, false, false, false] (by kernel_rfl) rfl rfl ⟨hX.out, hY.out, hQ.out⟩ (fun hHeld => ?_); refine bK sg.tab9 sg.bits9 (fun ab bj => ?_)
 refine tk 0 ab.out bj.out hHeld ?_ (hv := by exact fun _ aU => aI 57 (.tmp 3) rfl gX rfl _ _ _ aU.1 Try.underlying57 rfl HLB.out)
 refine tk 1 ab.out bj.out hHeld ?_ (hv := by exact fun _ aU => aI 62 (.tmp 4) rfl gY rfl _ _ _ aU.2.1 Try.underlying62 rfl (by kernel_rfl))
 refine pu 2 ab.out ?_
 refine pu 3 ab.out ?_
 refine pu 4 ab.out ?_
 refine tk 5 ab.out bj.out hHeld ?_ (hv := by exact fun _ aU => aI 57 (.tmp 10) rfl gQ rfl _ _ _ aU.2.2 Try.underlying57 rfl (HLN _ _ _ _))
 refine on 6 ab.out (fun K hK => ?_)
 refine gs Try.func43 #[.agg (aZ nb.addr nb.aff nb.slots (.slice A8 nb.free.length c8) (.slice A9 nb.attrs.length c9)).toArray] (HZR.out _ _ ⟨_, _, _, _, rfl, ⟨HNL.out, (rr hC).1, (rr hC).2, (rr hD).1, (rr hD).2⟩⟩) ?_
 rintro e V6 ⟨rfl, I⟩
 refine ⟨_, rfl, ?_⟩
 replace hB := mv I hB; replace hF := mv I hF; replace hG := mv I hG; replace hS := mv I hS; replace hP := mv I hP; replace hM := mv I hM; replace hX := mv I hX; replace hY := mv I hY; replace hT := mv I hT; replace hZ := mv I hZ; replace hU := mv I hU; replace hQ := mv I hQ; replace hC := mv I hC; replace hD := mv I hD; replace hO := mv I hO
 refine kn hK ⟨hX.out, hY.out, hQ.out⟩ (fun hHeld => ?_)
 clear hK K
 refine pu 7 ab.out ?_
 refine pu 8 ab.out ?_
 refine pu 9 ab.out ?_
 refine pu 10 ab.out ?_
 refine pu 11 ab.out ?_
 refine pu 12 ab.out ?_
 refine ow 13 ab.out (fun K hK => ?_)
 refine bA (by rfl) rfl 57 (.tmp 6) (.tmp 65) rfl gZ (aZ b.addr b.aff b.slots (.slice Af b.free.length cf) (.slice Aa b.attrs.length ca)) rfl rfl 57 _ hZ.out 68 (by kernel_rfl) (ag _ _ _ _ _ HL.out) rfl (b4 _ _ _ _ _ rfl rfl) ?_
 intro Ox aa J; replace hB := gb hB bN J; replace hF := gr hF hZ J; replace hG := gr hG hZ J; replace hS := gr hS hZ J; replace hP := gr hP hZ J; replace hM := gr hM hZ J; replace hX := gn hX aG J; replace hY := gx hY hZ J; replace hT := gx hT hZ J; replace hU := gx hU hZ J; replace hQ := gm hQ a7 J; replace hC := gr hC hZ J; replace hD := gr hD hZ J; replace hO := gr hO hZ J; replace hZ := ak (aa); clear aa J
 refine hK.out _ _ ⟨hX.out, hY.out, hQ.out⟩ (fun hHeld => ?_)
 clear hK K
 refine ow 14 ab.out (fun K hK => ?_)
 refine bA (by rfl) rfl 62 (.tmp 7) (.tmp 66) rfl gU (da b.addr b.aff (.slice As b.slots.length cs) (.slice Ap b.free.length cp) (.slice Am M.length cm)) rfl rfl 62 _ hU.out 5 (by kernel_rfl) rfl rfl (dJ _ _ rfl rfl rfl) ?_
 intro Ow aa J; replace hB := gb hB fu J; replace hF := gr hF hU J; replace hG := gr hG hU J; replace hS := gr hS hU J; replace hP := gr hP hU J; replace hM := gr hM hU J; replace hX := gx hX hU J; replace hY := gn hY dw J; replace hT := gx hT hU J; replace hZ := gx hZ hU J; replace hQ := gx hQ hU J; replace hC := gr hC hU J; replace hD := gr hD hU J; replace hO := gr hO hU J; replace hU := ak (aa); clear aa J
 refine hK.out _ _ ⟨hX.out, hY.out, hQ.out⟩ (fun hHeld => ?_)
 clear hK K
 refine pu 15 ab.out ?_
 refine dn ab.out ?_
 clear hHeld
 go_wp2_with fail
 refine bodyPost_ret (eK rfl _ _ _ gZ gU 57 62 _ _ _ _ rfl hZ.out rfl Try.underlying57 (by first | exact HLB.out | exact HLN _ _ _ _) rfl hU.out rfl Try.underlying62 (by kernel_rfl)) rfl ⟨_, _, b, rfl, ?_, ?_, ?_, hB.out⟩
 ·exact HG.out
 ·exact ⟨HL.out, _, _, rfl, hF.out, hG.out⟩
 ·exact ⟨_, _, _, rfl, hS.out, hP.out, by rw [← HM.out]; exact hM.out⟩
set_option maxHeartbeats 16000000 in
set_option maxRecDepth 100000 in
theorem LS (b : Bk) (hg : RG b) (kd : Int) (hkd : kd = 0 ∨ kd = 1) (n : Int) (hn : n < 9223372036854775808) (a : kz) (e7 : a.f0.size ≤ 9223372036854775807) (fE : a.f1.size ≤ 9223372036854775807) (l : List Int) (hu : ∀ x ∈ l, 0 ≤ x ∧ x < 4294967296) (hlm : l.length ≤ 9223372036854775807) (Al : Option Addr) (cl : Nat) (hcl : l.length ≤ cl) (aff : ByteArray) (hza : aff.size ≤ 9223372036854775807) (hma : eo (cv a) = true) (lP : 0 ≤ n) (v v2 : Value) (w : World) (base : Nat) (hbase : base ≤ w.heap.size) (hO : ea w base v b) (hR : eG w base v2 b) (hC : Kd.C (Kd.int .u32) w Al l.length l) :
  Calls Try.prog 47 #[v, v2, .agg #[.int .i64 kd, .int .i64 n, .string a.f0, .string a.f1, .slice Al l.length cl, .string aff]] w fun e w' => ∃ v1 v2 b', e = .returned (.tuple #[v1, v2, .bool true]) ∧ RG b' ∧ ea w' base v1 b' ∧ eG w' base v2 b' ∧ Below w.heap.size w w' := by
 obtain ⟨hl, vf, va, rfl, hf, ha⟩ := hO
 obtain ⟨vs, vp, vm, rfl, hs, hp, hm⟩ := hR
 obtain ⟨Af, cf, rfl⟩ := Kd.R_slice hf
 obtain ⟨Aa, ca, rfl⟩ := Kd.R_slice ha
 obtain ⟨As, cs, rfl⟩ := Kd.R_slice hs
 obtain ⟨Ap, cp, rfl⟩ := Kd.R_slice hp
 obtain ⟨M, hM⟩ : ∃ M, M = b.attrs.map vc := ⟨_, rfl⟩
 rw [← hM] at hm
 obtain ⟨Am, cm, rfl⟩ := Kd.R_slice hm
 have HL := ak hl
 have HM := ak hM
 have bw := ak hf
 have dY := ak ha
 have aX := ak hs
 have dT := ak hp
 have bD := ak hm
 have HG := ak hg
 have ae := ak (Below.refl w.heap.size w)
 have HBASE := ak hbase
 have HLB := ak (cg (aZ b.addr b.aff b.slots (.slice Af b.free.length cf) (.slice Aa b.attrs.length ca)) (ag _ _ _ _ _ HL.out))
 obtain ⟨lt, hlt⟩ : ∃ lt, lt = l.take 80 := ⟨_, rfl⟩
 have hut : ∀ x ∈ lt, 0 ≤ x ∧ x < 4294967296 := fun x hx => hu x (by rw [hlt] at hx; exact List.mem_of_mem_take hx)
 have hll : lt.length = min 80 l.length := by rw [hlt, List.length_take]
 have HCL := ak hcl
 have HLL := ak hll
 have HC := ak hC
 have HCT := ak (fun W (I : Below w.heap.size w W) => (show Kd.C (Kd.int .u32) W Al lt.length lt by
  rcases Nat.lt_or_ge 80 l.length with h | h
  ·have h_ := Kd.C_take (m := 80) (Kd.C_below hC I) (by omega)
   rw [← hlt] at h_
   exact h_
  ·have h_ := Kd.C_below hC I
   have e : lt = l := by rw [hlt, List.take_of_length_le h]
   rw [e]
   exact h_))
 have hbl := fun v w h => pB b hg.ok n hn (cv a) v w h
 have hok : lH b n (cv a) = true := by unfold lH; rw [hma, hg.right, decide_eq_true lP]; rfl
 rw [hok] at hbl
 simp only [if_true] at hbl
 have HMY := ak (fun w => qj a e7 fE w)
 rw [hma] at HMY
 have n0 : decide (n < 0) = false := by simp; omega
 have hp := iw hg.right
 have hrl := fun v w h0 h => Cz b hg.ok hp hl n hn lP (min n.toNat b.free.length) rfl (cv a) v w base h0 h
 have hrg := hg.asg (cv a) hma (min n.toNat b.free.length) (Nat.min_le_right _ _)
 obtain ⟨nb, hnb⟩ : ∃ nb, nb = eV b (min n.toNat b.free.length) (cv a) := ⟨_, rfl⟩
 obtain ⟨oo, hoo⟩ : ∃ oo, oo = fj b (min n.toNat b.free.length) := ⟨_, rfl⟩
 rw [← hnb, ← hoo] at hbl hrl
 rw [← hnb] at hrg
 have hol : oo.length ≤ 1000 := by rw [hoo]; rw [iF _ _ (Nat.min_le_right _ _)]; have := hg.sum; omega
 have HRG := ak hrg
 have HNL := ak hrg.l64
 have HOL := ak hol
 have HLN := fun A8 c8 A9 c9 => cg (aZ nb.addr nb.aff nb.slots (.slice A8 nb.free.length c8) (.slice A9 nb.attrs.length c9)) (ag _ _ _ _ _ HNL.out)
 have HBL := ak hbl
 have HRL := ak hrl
 clear hrg hbl hrl hol hnb hoo hp hma hok lP
 have HKD := ak hkd
 clear hkd
 clear hl hM hf ha hs hp hm hbase hC hu hut hll hcl hlt hg
 go_enter Try.func47, Try.ntmps47
 go_upto_if 37 with (first
  | (refine aE rfl 57 (.tmp 0) rfl _ rfl ?_; intro gX W1 J aa I; have bQ := ge ae J; have ai := ak (ae.out.trans (I.mono ae.out.size)); have bp := mv I bw; have dp := mv I dY; have bd := mv I aX; have cZ := mv I dT; have bH := mv I bD; have ah := ak (aa); clear J aa I ae bw dY aX dT bD)
  | (refine aE rfl 62 (.tmp 1) rfl _ rfl ?_; intro gY W2 J aa I; have iX := ge ai J; have fB := ne ah J; have av := mv I ai; have bT := mv I bp; have dF := mv I dp; have bC := mv I bd; have dd := mv I cZ; have b9 := mv I bH; have au := mv I ah; have b8 := ak (aa); clear J aa I ai bp dp bd cZ bH ah)
  | (refine aE rfl 79 (.tmp 2) rfl _ rfl ?_; intro gT W3 J aa I; have j9 := ge av J; have gW := ne au J; have ir := ne b8 J; have aD := mv I av; have cj := mv I bT; have dQ := mv I dF; have bU := mv I bC; have dA := mv I dd; have cN := mv I b9; have aA := mv I au; have b7 := mv I b8; have dK := ak (aa); clear J aa I av bT dF bC dd b9 au b8)
  | (refine aw (some 6) rfl rfl 57 rfl a9 bP ?_; intro gZ W4 J aa I; have bN := ge aD J; have aG := ne aA J; have fM := ne b7 J; have jC := ne dK J; have aY := mv I aD; have ch := mv I cj; have dE := mv I dQ; have cx := mv I bU; have dX := mv I dA; have cR := mv I cN; have aV := mv I aA; have bZ := mv I b7; have dP := mv I dK; have a8 := ak (aa); clear J aa I aD cj dQ bU dA cN aA b7 dK)
  | (refine aw (some 7) rfl rfl 62 rfl dG (fun _ => by kernel_rfl) ?_; intro gU W5 J aa I; have fu := ge aY J; have gC := ne aV J; have dw := ne bZ J; have jD := ne dP J; have gB := ne a8 J; have bf := mv I aY; have cb := mv I ch; have de := mv I dE; have cJ := mv I cx; have ee := mv I dX; have cG := mv I cR; have bb := mv I aV; have cB := mv I bZ; have bx := mv I dP; have bu := mv I a8; have eH := ak (aa); have jA := bx.out.cell 0 _ rfl; have gR := bx.out.cell 1 _ rfl; have jz := bx.out.cell 2 _ rfl; have jy := bx.out.cell 3 _ rfl; have jx := bx.out.cell 4 _ rfl; have gv := bx.out.cell 5 _ rfl; clear J aa I aY ch dE cx dX cR aV bZ dP a8))
 go_cut [9] from 38 to 39 (fun s9 wx => s9 = .slice Al lt.length cl ∧ W5 = wx)
 case first =>
  rcases Nat.lt_or_ge 80 l.length with k8 | k8
  ·have kZ : decide ((80 : Int) < (l.length : Int)) = true := by simp; omega
   have tJ : (((0 : Int) ≤ 80 ∧ (80 : Int) ≤ (cl : Int)) = True) := eq_true ⟨by omega, by have := HCL.out; omega⟩
   have tI : (((80 : Int) ≤ (cl : Int)) = True) := eq_true (by have := HCL.out; omega)
   go_wp2_with fail
   go_meet
   exact ⟨by rw [HLL.out, Nat.min_eq_left (by omega)], rfl⟩
  ·have kZ : decide ((80 : Int) < (l.length : Int)) = false := by simp; omega
   go_wp2_with fail
   go_meet
   exact ⟨by rw [HLL.out, Nat.min_eq_right (by omega)], rfl⟩
 case rest =>
 obtain ⟨fY, fX⟩ := hcut
 subst fY
 subst fX
 go_upto_if 42 with fail
 go_cut [42] from 43 to 44 (fun sY wx => sY = .bool true ∧ W5 = wx)
 case first =>
  rcases HKD.out with cD | cD
  ·skip
   have yX : (kd = 0) = True := eq_true (by omega)
   have EB : decide (kd = 0) = true := by simp; omega
   have Et : (kd == 0) = true := by simp; omega
   clear cD
   go_wp2_with fail
   go_meet
   exact ⟨by first | rfl | simp [yX], rfl⟩
  ·skip
   have yX : (kd = 0) = False := eq_false (by omega)
   have EB : decide (kd = 0) = false := by simp; omega
   have Et : (kd == 0) = false := by simp; omega
   have ED : (kd = 1) = True := eq_true (by omega)
   have Of : decide (kd = 1) = true := by simp; omega
   have Oc : (kd == 1) = true := by simp; omega
   clear cD
   go_wp2_with fail
   go_meet
   exact ⟨by first | rfl | simp [ED], rfl⟩
 case rest =>
 obtain ⟨fY, fX⟩ := hcut
 subst fY
 subst fX
 go_wp2_with fail
 have aj : Below W5.heap.size W5 W5.drew := bo (Below.refl _ _)
 have bG := mv aj bf; have cQ := mv aj cb; have dt := mv aj de; have cY := mv aj cJ; have ef := mv aj ee; have dD := mv aj cG; have bh := mv aj bb; have cX := mv aj cB; have fh := mv aj bx; have bS := mv aj bu; have dW := mv aj eH
 clear aj bf cb de cJ ee cG bb cB bx bu eH jA gR jz jy jx gv
 have hB := bG
 have hF := cQ
 have hG := dt
 have hS := cY
 have hP := ef
 have hM := dD
 have hX := bh
 have hY := cX
 have hT := fh
 have hZ := bS
 have hU := dW
 clear bG cQ dt cY ef dD bh cX fh bS dW
 refine cW (n := 15) (S := fun w' => aH w' gX (aZ b.addr b.aff b.slots (.slice Af b.free.length cf) (.slice Aa b.attrs.length ca)) 57 ∧ aH w' gT [.int .i64 kd, .int .i64 n, .string a.f0, .string a.f1, .slice Al l.length cl, .string aff] 79) (ds := []) #[false, false, false, false, false, false, false, false, false, false, false, false, false, false, false] (by kernel_rfl) rfl rfl ⟨hX.out, hT.out⟩ (fun hHeld => ?_); refine bK o8.tab7 o8.bits7 (fun ab bj => ?_)
 refine tk 0 ab.out bj.out hHeld ?_ (hv := by exact fun _ aU => aI 57 (.tmp 3) rfl gX rfl _ _ _ aU.1 Try.underlying57 rfl HLB.out)
 refine pu 1 ab.out ?_
 refine tk 2 ab.out bj.out hHeld ?_ (hv := by intro w' aU; have Bl := aU.2.cell 1 _ rfl; go_simp; with_reducible rfl)
 refine pu 3 ab.out ?_
 refine tk 4 ab.out bj.out hHeld ?_ (hv := by exact fun _ aU => nw 76 (.tmp 49) rfl gT 2 rfl _ _ [.string a.f0, .string a.f1] _ aU.2 ui Try.underlying76 rfl (by kernel_rfl))
 refine pw (σ := Nat × Value × Value) 3 #[true, true, true, true, true, true, true, true, true, true, true, true, false, false, false] (fun s => [(51, ej (cv a)), (52, .tuple #[s.2.1, s.2.2, .int .i64 0]), (45, .tuple #[s.2.1, s.2.2, .int .i64 0]), (53, s.2.1), (54, s.2.2), (55, .int .i64 0), (10, .pointer (some ⟨s.1, 0, none⟩))]) (fun s w' => Aside0 (Below w.heap.size w w') ∧ Aside0 (Kd.R (Kd.int .u8) 5 w' base (fun _ => True) (.slice Af b.free.length cf) b.free) ∧ Aside0 (Kd.R kc 85 w' base (fun _ => True) (.slice Aa b.attrs.length ca) b.attrs) ∧ Aside0 (Kd.R (Kd.int .i64) 3 w' base (fun _ => True) (.slice As b.slots.length cs) b.slots) ∧ Aside0 (Kd.R (Kd.int .i64) 3 w' base (fun _ => True) (.slice Ap b.free.length cp) b.free) ∧ Aside0 (Kd.R g8 76 w' base (fun _ => True) (.slice Am M.length cm) M) ∧ Aside0 (aH w' gX (aZ b.addr b.aff b.slots (.slice Af b.free.length cf) (.slice Aa b.attrs.length ca)) 57) ∧ Aside0 (aH w' gY (da b.addr b.aff (.slice As b.slots.length cs) (.slice Ap b.free.length cp) (.slice Am M.length cm)) 62) ∧ Aside0 (aH w' gT [.int .i64 kd, .int .i64 n, .string a.f0, .string a.f1, .slice Al l.length cl, .string aff] 79) ∧ Aside0 (aH w' gZ a9 57) ∧ Aside0 (aH w' gU dG 62) ∧ Aside0 (aH w' s.1 a9 57) ∧ Aside0 (w.heap.size ≤ s.1) ∧ Aside0 (gX ≠ s.1) ∧ Aside0 (gZ ≠ s.1) ∧ Aside0 (ea w' base s.2.1 nb) ∧ Aside0 (Kd.R (Kd.int .u32) 46 w' base (fun _ => True) s.2.2 oo)) ?_ ?_
 rotate_left
 ·intro en
  refine tw 5 11 ab.out (fun K hK => ?_) (fun K hK => ?_)
  ·skip
   refine gs Try.func50 #[.agg #[.string a.f0, .string a.f1]] (jI a _) ?_
   rintro e V5 ⟨rfl, I⟩
   refine ⟨_, rfl, ?_⟩
   (try replace hV := mv I hV); (try replace dr := mv I dr); (try replace hQ := mv I hQ); replace hB := mv I hB; replace hF := mv I hF; replace hG := mv I hG; replace hS := mv I hS; replace hP := mv I hP; replace hM := mv I hM; replace hX := mv I hX; replace hY := mv I hY; replace hT := mv I hT; replace hZ := mv I hZ; replace hU := mv I hU; clear  I
   refine kn hK ⟨hX.out, hT.out⟩ (fun hHeld => ?_)
   clear hK K
   refine tw 6 11 ab.out (fun K hK => ?_) (fun K hK => ?_)
   ·skip
    refine gs Try.func49 #[.agg (aZ b.addr b.aff b.slots (.slice Af b.free.length cf) (.slice Aa b.attrs.length ca)).toArray, .int .i64 n, ej (cv a)] (HBL.out _ _ ⟨_, _, _, _, rfl, ⟨HL.out, (rr hF).1, (rr hF).2, (rr hG).1, (rr hG).2⟩⟩) ?_
    rintro e V6 ⟨v_, kX, rfl, aW, e8, I⟩
    refine ⟨_, rfl, ?_⟩
    have hV := ak (aW.lower (lb HBASE hB)); have dr := ak (Kd.R_lower e8 (lb HBASE hB)); (try replace hQ := mv I hQ); replace hB := mv I hB; replace hF := mv I hF; replace hG := mv I hG; replace hS := mv I hS; replace hP := mv I hP; replace hM := mv I hM; replace hX := mv I hX; replace hY := mv I hY; replace hT := mv I hT; replace hZ := mv I hZ; replace hU := mv I hU; clear aW e8 I
    refine kn hK ⟨hX.out, hT.out⟩ (fun hHeld => ?_)
    clear hK K
    refine pu 7 ab.out ?_
    refine pu 8 ab.out ?_
    refine pu 9 ab.out ?_
    refine pu 10 ab.out ?_
    refine on 11 ab.out (fun K hK => ?_)
    refine dM (by rfl) 57 rfl a9 bP ?_
    intro gQ oa J aa I
    have cE := ge hB J
    have bk := ne hX J
    have a7 := ne hZ J
    (try replace hV := mv I hV)
    (try replace dr := mv I dr)
    replace hB := mv I hB
    replace hF := mv I hF
    replace hG := mv I hG
    replace hS := mv I hS
    replace hP := mv I hP
    replace hM := mv I hM
    replace hX := mv I hX
    replace hY := mv I hY
    replace hT := mv I hT
    replace hZ := mv I hZ
    replace hU := mv I hU
    have hQ := ak aa
    clear J aa I
    refine kn hK ⟨hX.out, hT.out⟩ (fun hHeld => ?_)
    clear hK K
    exact nc (en ⟨gQ, v_, kX⟩ _ ⟨hB, hF, hG, hS, hP, hM, hX, hY, hT, hZ, hU, hQ, cE, bk, a7, hV, dr⟩)
   ·skip
    refine dM (by rfl) 57 rfl a9 bP ?_
    intro gQ oa J aa I
    have cE := ge hB J
    have bk := ne hX J
    have a7 := ne hZ J
    (try replace hV := mv I hV)
    (try replace dr := mv I dr)
    replace hB := mv I hB
    replace hF := mv I hF
    replace hG := mv I hG
    replace hS := mv I hS
    replace hP := mv I hP
    replace hM := mv I hM
    replace hX := mv I hX
    replace hY := mv I hY
    replace hT := mv I hT
    replace hZ := mv I hZ
    replace hU := mv I hU
    have hQ := ak aa
    clear J aa I
    refine kn hK ⟨hX.out, hT.out⟩ (fun hHeld => ?_)
    clear hK K
    refine on 6 ab.out (fun K hK => ?_)
    refine gs Try.func49 #[.agg (aZ b.addr b.aff b.slots (.slice Af b.free.length cf) (.slice Aa b.attrs.length ca)).toArray, .int .i64 n, ej (cv a)] (HBL.out _ _ ⟨_, _, _, _, rfl, ⟨HL.out, (rr hF).1, (rr hF).2, (rr hG).1, (rr hG).2⟩⟩) ?_
    rintro e V6 ⟨v_, kX, rfl, aW, e8, I⟩
    refine ⟨_, rfl, ?_⟩
    have hV := ak (aW.lower (lb HBASE hB)); have dr := ak (Kd.R_lower e8 (lb HBASE hB)); (try replace hQ := mv I hQ); replace hB := mv I hB; replace hF := mv I hF; replace hG := mv I hG; replace hS := mv I hS; replace hP := mv I hP; replace hM := mv I hM; replace hX := mv I hX; replace hY := mv I hY; replace hT := mv I hT; replace hZ := mv I hZ; replace hU := mv I hU; clear aW e8 I
    refine kn hK ⟨hX.out, hT.out⟩ (fun hHeld => ?_)
    clear hK K
    refine pu 7 ab.out ?_
    refine pu 8 ab.out ?_
    refine pu 9 ab.out ?_
    refine pu 10 ab.out ?_
    exact nc (en ⟨gQ, v_, kX⟩ _ ⟨hB, hF, hG, hS, hP, hM, hX, hY, hT, hZ, hU, hQ, cE, bk, a7, hV, dr⟩)
  ·skip
   refine dM (by rfl) 57 rfl a9 bP ?_
   intro gQ oa J aa I
   have cE := ge hB J
   have bk := ne hX J
   have a7 := ne hZ J
   (try replace hV := mv I hV)
   (try replace dr := mv I dr)
   replace hB := mv I hB
   replace hF := mv I hF
   replace hG := mv I hG
   replace hS := mv I hS
   replace hP := mv I hP
   replace hM := mv I hM
   replace hX := mv I hX
   replace hY := mv I hY
   replace hT := mv I hT
   replace hZ := mv I hZ
   replace hU := mv I hU
   have hQ := ak aa
   clear J aa I
   refine kn hK ⟨hX.out, hT.out⟩ (fun hHeld => ?_)
   clear hK K
   refine on 5 ab.out (fun K hK => ?_)
   refine gs Try.func50 #[.agg #[.string a.f0, .string a.f1]] (jI a _) ?_
   rintro e V5 ⟨rfl, I⟩
   refine ⟨_, rfl, ?_⟩
   (try replace hV := mv I hV); (try replace dr := mv I dr); (try replace hQ := mv I hQ); replace hB := mv I hB; replace hF := mv I hF; replace hG := mv I hG; replace hS := mv I hS; replace hP := mv I hP; replace hM := mv I hM; replace hX := mv I hX; replace hY := mv I hY; replace hT := mv I hT; replace hZ := mv I hZ; replace hU := mv I hU; clear  I
   refine kn hK ⟨hX.out, hT.out⟩ (fun hHeld => ?_)
   clear hK K
   refine on 6 ab.out (fun K hK => ?_)
   refine gs Try.func49 #[.agg (aZ b.addr b.aff b.slots (.slice Af b.free.length cf) (.slice Aa b.attrs.length ca)).toArray, .int .i64 n, ej (cv a)] (HBL.out _ _ ⟨_, _, _, _, rfl, ⟨HL.out, (rr hF).1, (rr hF).2, (rr hG).1, (rr hG).2⟩⟩) ?_
   rintro e V6 ⟨v_, kX, rfl, aW, e8, I⟩
   refine ⟨_, rfl, ?_⟩
   have hV := ak (aW.lower (lb HBASE hB)); have dr := ak (Kd.R_lower e8 (lb HBASE hB)); (try replace hQ := mv I hQ); replace hB := mv I hB; replace hF := mv I hF; replace hG := mv I hG; replace hS := mv I hS; replace hP := mv I hP; replace hM := mv I hM; replace hX := mv I hX; replace hY := mv I hY; replace hT := mv I hT; replace hZ := mv I hZ; replace hU := mv I hU; clear aW e8 I
   refine kn hK ⟨hX.out, hT.out⟩ (fun hHeld => ?_)
   clear hK K
   refine pu 7 ab.out ?_
   refine pu 8 ab.out ?_
   refine pu 9 ab.out ?_
   refine pu 10 ab.out ?_
   exact nc (en ⟨gQ, v_, kX⟩ _ ⟨hB, hF, hG, hS, hP, hM, hX, hY, hT, hZ, hU, hQ, cE, bk, a7, hV, dr⟩)
 intro s w' hFF; obtain ⟨gQ, v_, kX⟩ := s; simp only at hFF; obtain ⟨hB, hF, hG, hS, hP, hM, hX, hY, hT, hZ, hU, hQ, cE, bk, a7, hV, dr⟩ := hFF; have aW := hV.out; obtain ⟨iD, oP, oQ, rfl, di, dO⟩ := aW; obtain ⟨A8, c8, rfl⟩ := Kd.R_slice di; obtain ⟨A9, c9, rfl⟩ := Kd.R_slice dO; obtain ⟨Ao, co, rfl⟩ := Kd.R_slice dr.out; have hC := ak di; have hD := ak dO; have hO := dr; clear hV dr iD di dO
 refine nj ?_
 refine ow 12 ab.out (fun K hK => ?_)
 refine bA (by rfl) rfl 57 (.tmp 10) (.tmp 53) rfl gQ (aZ nb.addr nb.aff nb.slots (.slice A8 nb.free.length c8) (.slice A9 nb.attrs.length c9)) rfl rfl 57 _ hQ.out 68 (by kernel_rfl) (ag _ _ _ _ _ HNL.out) rfl (b4 _ _ _ _ _ rfl rfl) ?_
 intro L5 aa J; replace hB := gb hB cE J; replace hF := gr hF hQ J; replace hG := gr hG hQ J; replace hS := gr hS hQ J; replace hP := gr hP hQ J; replace hM := gr hM hQ J; replace hX := gn hX bk J; replace hY := gx hY hQ J; replace hT := gx hT hQ J; replace hZ := gn hZ a7 J; replace hU := gx hU hQ J; replace hC := gr hC hQ J; replace hD := gr hD hQ J; replace hO := gr hO hQ J; replace hQ := ak (aa); clear aa J
 refine hK.out _ _ ⟨hX.out, hT.out⟩ (fun hHeld => ?_)
 clear hK K
 refine pu 13 ab.out ?_
 refine pu 14 ab.out ?_
 refine dn ab.out ?_
 clear hHeld
 have gR := hT.out.cell 1 _ rfl
 go_wp2_with (first
  | ((with_reducible refine ax (N := 57) rfl ?_); refine eQ rfl 76 (.tmp 56) rfl gT 2 rfl 79 _ [.string a.f0, .string a.f1] _ hT.out ui Try.underlying76 rfl (by kernel_rfl) ?_)
  | (go_at_call 60; refine (HMY.out _).mono ?_; rintro e qC ⟨rfl, I⟩; have iK := mv I hB; have jr := mv I hF; have jo := mv I hG; have ic := mv I hS; have ie := mv I hP; have ig := mv I hM; have jk := mv I hX; have ib := mv I hY; have mV := mv I hT; have ji := mv I hZ; have jl := mv I hU; have jm := mv I hQ; have jv := mv I hC; have jt := mv I hD; have rE := mv I hO; have o9 := mV.out.cell 1 _ rfl; clear I hB hF hG hS hP hM hX hY hT hZ hU hQ hC hD hO gR)
  | ((with_reducible refine ax (N := 83) rfl ?_); refine eQ rfl 76 (.tmp 82) rfl gT 2 rfl 79 _ [.string a.f0, .string a.f1] _ mV.out ui Try.underlying76 rfl (by kernel_rfl) ?_)
  | ((with_reducible refine ax (N := 79) rfl ?_); refine az rfl 62 (.tmp 4) rfl gY rfl _ _ _ ib.out Try.underlying62 rfl 5 (by kernel_rfl) rfl ?_)
  | (go_at_call 82; refine (HRL.out _ _ (lb HBASE iK) ⟨_, _, _, rfl, ic.out, ie.out, by rw [← HM.out]; exact ig.out⟩).mono ?_; rintro e Dg ⟨v9, pR, rfl, fC, kY, I⟩; have HSZ := ak (lb HBASE iK); obtain ⟨tT, qE, qF, rfl, fZ, fb, ep⟩ := fC; obtain ⟨A1, c1, rfl⟩ := Kd.R_slice fZ; obtain ⟨A2, c2, rfl⟩ := Kd.R_slice fb; obtain ⟨NM, hNM⟩ : ∃ NM, NM = nb.attrs.map vc := ⟨_, rfl⟩; rw [← hNM] at ep; have HNM := ak hNM; obtain ⟨A3, c3, rfl⟩ := Kd.R_slice ep; obtain ⟨Co, Bz, rfl⟩ := Kd.R_slice kY; have iW := mv I iK; have jq := mv I jr; have jn := mv I jo; have iH := mv I ic; have iI := mv I ie; have iJ := mv I ig; have iS := mv I jk; have iu := mv I ib; have pF := mv I mV; have iR := mv I ji; have iU := mv I jl; have iV := mv I jm; have ju := mv I jv; have js := mv I jt; have rD := mv I rE; have II := ak (fZ); have IC := ak (fb); have Ji := ak (ep); have FI := ak (Kd.R_lower kY HSZ.out); clear HSZ hNM fZ fb ep kY I iK jr jo ic ie ig jk ib mV ji jl jm jv jt rE o9)
  | (refine aw (some 13) rfl rfl 62 rfl dG (fun _ => by kernel_rfl) ?_; intro gV Ot J aa I; have df := ge iW J; have fx := ne iS J; have eC := ne iu J; have tn := ne pF J; have jZ := ne iR J; have dV := ne iU J; have tq := ne iV J; have ml := mv I iW; have nU := mv I jq; have nT := mv I jn; have nO := mv I iH; have nR := mv I iI; have nS := mv I iJ; have mg := mv I iS; have mf := mv I iu; have H5 := mv I pF; have me := mv I iR; have mi := mv I iU; have mj := mv I iV; have n7 := mv I ju; have nZ := mv I js; have Ii := mv I rD; have IH := mv I II; have IB := mv I IC; have Jh := mv I Ji; have FH := mv I FI; have j7 := ak (aa); clear J aa I iW jq jn iH iI iJ iS iu pF iR iU iV ju js rD II IC Ji FI)
  | (refine aN rfl 62 (.tmp 13) (.tmp 85) rfl gV (da nb.addr nb.aff (.slice A1 nb.slots.length c1) (.slice A2 nb.free.length c2) (.slice A3 NM.length c3)) rfl rfl 62 _ j7.out 5 (by kernel_rfl) rfl rfl (dJ _ _ rfl rfl rfl) ?_; intro FB aa J; have rX := gb ml df J; have rO := gr nU j7 J; have rL := gr nT j7 J; have rq := gr nO j7 J; have rB := gr nR j7 J; have rG := gr nS j7 J; have rk := gx mg j7 J; have ri := gn mf eC J; have H4 := gx H5 j7 J; have rb := gx me j7 J; have rn := gn mi dV J; have rz := gx mj j7 J; have rU := gr n7 j7 J; have rR := gr nZ j7 J; have Ih := gr Ii j7 J; have IG := gr IH j7 J; have IA := gr IB j7 J; have Jg := gr Jh j7 J; have FG := gr FH j7 J; have fI := ak (aa); clear aa J ml nU nT nO nR nS mg mf H5 me mi mj n7 nZ Ii IH IB Jh FH j7))
 have aj : Below FB.heap.size FB FB.drew := bo (Below.refl _ _)
 have rW := mv aj rX; have rN := mv aj rO; have rK := mv aj rL; have rp := mv aj rq; have rA := mv aj rB; have rF := mv aj rG; have rj := mv aj rk; have rh := mv aj ri; have H3 := mv aj H4; have ra := mv aj rb; have rm := mv aj rn; have ry := mv aj rz; have rT := mv aj rU; have rQ := mv aj rR; have Ig := mv aj Ih; have IF := mv aj IG; have Iz := mv aj IA; have Jf := mv aj Jg; have FF := mv aj FG; have zT := mv aj fI
 clear aj rX rO rL rq rB rG rk ri H4 rb rn rz rU rR Ih IG IA Jg FG fI
 have hB := rW
 have hF := rN
 have hG := rK
 have hS := rp
 have hP := rA
 have hM := rF
 have hX := rj
 have hY := rh
 have hT := H3
 have hZ := ra
 have hU := rm
 have hQ := ry
 have hC := rT
 have hD := rQ
 have hO := Ig
 have hI := IF
 have hJ := Iz
 have hE := Jf
 have gq := FF
 have hV := zT
 clear rW rN rK rp rA rF rj rh H3 ra rm ry rT rQ Ig IF Iz Jf FF zT
 refine cW (n := 12) (S := fun w' => aH w' gQ (aZ nb.addr nb.aff nb.slots (.slice A8 nb.free.length c8) (.slice A9 nb.attrs.length c9)) 57 ∧ aH w' gV (da nb.addr nb.aff (.slice A1 nb.slots.length c1) (.slice A2 nb.free.length c2) (.slice A3 NM.length c3)) 62) (ds := []) #[false, false, false, false, false, false, false, false, false, false, false, false] (by kernel_rfl) rfl rfl ⟨hQ.out, hV.out⟩ (fun hHeld => ?_); refine bK qS.tab11 qS.bits11 (fun ab bj => ?_)
 refine tk 0 ab.out bj.out hHeld ?_ (hv := by exact fun _ aU => aI 57 (.tmp 10) rfl gQ rfl _ _ _ aU.1 Try.underlying57 rfl (HLN _ _ _ _))
 refine tk 1 ab.out bj.out hHeld ?_ (hv := by exact fun _ aU => aI 62 (.tmp 13) rfl gV rfl _ _ _ aU.2 Try.underlying62 rfl (by kernel_rfl))
 refine pu 2 ab.out ?_
 refine pu 3 ab.out ?_
 refine pu 4 ab.out ?_
 refine pu 5 ab.out ?_
 refine pu 6 ab.out ?_
 refine on 7 ab.out (fun K hK => ?_)
 refine gs Try.func61 #[(.slice Ao oo.length co), (.slice Co oo.length Bz)] (nD oo HOL.out _ _ _ _ _ (Kd.R_reads' hO.out).2.2 (Kd.R_reads' hO.out).2.1 (Kd.R_reads' gq.out).2.2 (Kd.R_reads' gq.out).2.1) ?_
 rintro e V7 ⟨rfl, I⟩
 refine ⟨_, rfl, ?_⟩
 replace hB := mv I hB; replace hF := mv I hF; replace hG := mv I hG; replace hS := mv I hS; replace hP := mv I hP; replace hM := mv I hM; replace hX := mv I hX; replace hY := mv I hY; replace hT := mv I hT; replace hZ := mv I hZ; replace hU := mv I hU; replace hQ := mv I hQ; replace hC := mv I hC; replace hD := mv I hD; replace hO := mv I hO; replace hI := mv I hI; replace hJ := mv I hJ; replace hE := mv I hE; replace gq := mv I gq; replace hV := mv I hV
 refine kn hK ⟨hQ.out, hV.out⟩ (fun hHeld => ?_)
 clear hK K
 refine pu 8 ab.out ?_
 refine ow 9 ab.out (fun K hK => ?_)
 refine bA (by rfl) rfl 57 (.tmp 6) (.tmp 87) rfl gZ (aZ nb.addr nb.aff nb.slots (.slice A8 nb.free.length c8) (.slice A9 nb.attrs.length c9)) rfl rfl 57 _ hZ.out 68 (by kernel_rfl) (ag _ _ _ _ _ HNL.out) rfl (b4 _ _ _ _ _ rfl rfl) ?_
 intro V9 aa J; replace hB := gb hB bN J; replace hF := gr hF hZ J; replace hG := gr hG hZ J; replace hS := gr hS hZ J; replace hP := gr hP hZ J; replace hM := gr hM hZ J; replace hX := gn hX aG J; replace hY := gx hY hZ J; replace hT := gx hT hZ J; replace hU := gx hU hZ J; replace hQ := gm hQ a7 J; replace hC := gr hC hZ J; replace hD := gr hD hZ J; replace hO := gr hO hZ J; replace hI := gr hI hZ J; replace hJ := gr hJ hZ J; replace hE := gr hE hZ J; replace gq := gr gq hZ J; replace hV := gx hV hZ J; replace hZ := ak (aa); clear aa J
 refine hK.out _ _ ⟨hQ.out, hV.out⟩ (fun hHeld => ?_)
 clear hK K
 refine ow 10 ab.out (fun K hK => ?_)
 refine bA (by rfl) rfl 62 (.tmp 7) (.tmp 88) rfl gU (da nb.addr nb.aff (.slice A1 nb.slots.length c1) (.slice A2 nb.free.length c2) (.slice A3 NM.length c3)) rfl rfl 62 _ hU.out 5 (by kernel_rfl) rfl rfl (dJ _ _ rfl rfl rfl) ?_
 intro wJ aa J; replace hB := gb hB fu J; replace hF := gr hF hU J; replace hG := gr hG hU J; replace hS := gr hS hU J; replace hP := gr hP hU J; replace hM := gr hM hU J; replace hX := gx hX hU J; replace hY := gn hY dw J; replace hT := gx hT hU J; replace hZ := gx hZ hU J; replace hQ := gx hQ hU J; replace hC := gr hC hU J; replace hD := gr hD hU J; replace hO := gr hO hU J; replace hI := gr hI hU J; replace hJ := gr hJ hU J; replace hE := gr hE hU J; replace gq := gr gq hU J; replace hV := gm hV dV J; replace hU := ak (aa); clear aa J
 refine hK.out _ _ ⟨hQ.out, hV.out⟩ (fun hHeld => ?_)
 clear hK K
 refine pu 11 ab.out ?_
 refine dn ab.out ?_
 clear hHeld
 go_wp2_with fail
 refine bodyPost_ret (eK rfl _ _ _ gZ gU 57 62 _ _ _ _ rfl hZ.out rfl Try.underlying57 (by first | exact HLB.out | exact HLN _ _ _ _) rfl hU.out rfl Try.underlying62 (by kernel_rfl)) rfl ⟨_, _, nb, rfl, ?_, ?_, ?_, hB.out⟩
 ·exact HRG.out
 ·exact ⟨HNL.out, _, _, rfl, hC.out, hD.out⟩
 ·exact ⟨_, _, _, rfl, hI.out, hJ.out, by rw [← HNM.out]; exact hE.out⟩
end Go.Proofs.Ytemhalnhbgkbcaa.V
end

section
namespace Go.Proofs.Ytemhalnhbgkbcaa.V
set_option maxHeartbeats 16000000 in
set_option maxRecDepth 100000 in
theorem GI (b : Bk) (hg : RG b) (kd : Int) (n : Int) (hn : n < 9223372036854775808) (a : kz) (e7 : a.f0.size ≤ 9223372036854775807) (fE : a.f1.size ≤ 9223372036854775807) (l : List Int) (hu : ∀ x ∈ l, 0 ≤ x ∧ x < 4294967296) (hlm : l.length ≤ 9223372036854775807) (Al : Option Addr) (cl : Nat) (hcl : l.length ≤ cl) (aff : ByteArray) (hza : aff.size ≤ 9223372036854775807) (hk : kd ≠ 0 ∧ kd ≠ 1 ∧ kd ≠ 2 ∧ kd ≠ 3 ∧ kd ≠ 4 ∧ kd ≠ 5 ∧ kd ≠ 6 ∧ kd ≠ 7) (v v2 : Value) (w : World) (base : Nat) (hbase : base ≤ w.heap.size) (hO : ea w base v b) (hR : eG w base v2 b) (hC : Kd.C (Kd.int .u32) w Al l.length l) :
  Calls Try.prog 47 #[v, v2, .agg #[.int .i64 kd, .int .i64 n, .string a.f0, .string a.f1, .slice Al l.length cl, .string aff]] w fun e w' => ∃ v1 v2 b', e = .returned (.tuple #[v1, v2, .bool true]) ∧ RG b' ∧ ea w' base v1 b' ∧ eG w' base v2 b' ∧ Below w.heap.size w w' := by
 obtain ⟨hl, vf, va, rfl, hf, ha⟩ := hO
 obtain ⟨vs, vp, vm, rfl, hs, hp, hm⟩ := hR
 obtain ⟨Af, cf, rfl⟩ := Kd.R_slice hf
 obtain ⟨Aa, ca, rfl⟩ := Kd.R_slice ha
 obtain ⟨As, cs, rfl⟩ := Kd.R_slice hs
 obtain ⟨Ap, cp, rfl⟩ := Kd.R_slice hp
 obtain ⟨M, hM⟩ : ∃ M, M = b.attrs.map vc := ⟨_, rfl⟩
 rw [← hM] at hm
 obtain ⟨Am, cm, rfl⟩ := Kd.R_slice hm
 have HL := ak hl
 have HM := ak hM
 have bw := ak hf
 have dY := ak ha
 have aX := ak hs
 have dT := ak hp
 have bD := ak hm
 have HG := ak hg
 have ae := ak (Below.refl w.heap.size w)
 have HBASE := ak hbase
 have HLB := ak (cg (aZ b.addr b.aff b.slots (.slice Af b.free.length cf) (.slice Aa b.attrs.length ca)) (ag _ _ _ _ _ HL.out))
 obtain ⟨lt, hlt⟩ : ∃ lt, lt = l.take 80 := ⟨_, rfl⟩
 have hut : ∀ x ∈ lt, 0 ≤ x ∧ x < 4294967296 := fun x hx => hu x (by rw [hlt] at hx; exact List.mem_of_mem_take hx)
 have hll : lt.length = min 80 l.length := by rw [hlt, List.length_take]
 have HCL := ak hcl
 have HLL := ak hll
 have HC := ak hC
 have HCT := ak (fun W (I : Below w.heap.size w W) => (show Kd.C (Kd.int .u32) W Al lt.length lt by
  rcases Nat.lt_or_ge 80 l.length with h | h
  ·have h_ := Kd.C_take (m := 80) (Kd.C_below hC I) (by omega)
   rw [← hlt] at h_
   exact h_
  ·have h_ := Kd.C_below hC I
   have e : lt = l := by rw [hlt, List.take_of_length_le h]
   rw [e]
   exact h_))
 obtain ⟨k0, k1, k2, k3, k4, k5, k6, k7⟩ := hk
 have q0 : (kd = 0) = False := eq_false k0
 have r0 : decide (kd = 0) = false := decide_eq_false k0
 have u0 : (kd == 0) = false := beq_eq_false_iff_ne.mpr k0
 have q1 : (kd = 1) = False := eq_false k1
 have r1 : decide (kd = 1) = false := decide_eq_false k1
 have u1 : (kd == 1) = false := beq_eq_false_iff_ne.mpr k1
 have q2 : (kd = 2) = False := eq_false k2
 have r2 : decide (kd = 2) = false := decide_eq_false k2
 have u2 : (kd == 2) = false := beq_eq_false_iff_ne.mpr k2
 have q3 : (kd = 3) = False := eq_false k3
 have r3 : decide (kd = 3) = false := decide_eq_false k3
 have u3 : (kd == 3) = false := beq_eq_false_iff_ne.mpr k3
 have q4 : (kd = 4) = False := eq_false k4
 have r4 : decide (kd = 4) = false := decide_eq_false k4
 have u4 : (kd == 4) = false := beq_eq_false_iff_ne.mpr k4
 have q5 : (kd = 5) = False := eq_false k5
 have r5 : decide (kd = 5) = false := decide_eq_false k5
 have u5 : (kd == 5) = false := beq_eq_false_iff_ne.mpr k5
 have q6 : (kd = 6) = False := eq_false k6
 have r6 : decide (kd = 6) = false := decide_eq_false k6
 have u6 : (kd == 6) = false := beq_eq_false_iff_ne.mpr k6
 have q7 : (kd = 7) = False := eq_false k7
 have r7 : decide (kd = 7) = false := decide_eq_false k7
 have u7 : (kd == 7) = false := beq_eq_false_iff_ne.mpr k7
 clear k0 k1 k2 k3 k4 k5 k6 k7
 clear hl hM hf ha hs hp hm hbase hC hu hut hll hcl hlt hg
 go_enter Try.func47, Try.ntmps47
 go_upto_if 37 with (first
  | (refine aE rfl 57 (.tmp 0) rfl _ rfl ?_; intro gX W1 J aa I; have bQ := ge ae J; have ai := ak (ae.out.trans (I.mono ae.out.size)); have bp := mv I bw; have dp := mv I dY; have bd := mv I aX; have cZ := mv I dT; have bH := mv I bD; have ah := ak (aa); clear J aa I ae bw dY aX dT bD)
  | (refine aE rfl 62 (.tmp 1) rfl _ rfl ?_; intro gY W2 J aa I; have iX := ge ai J; have fB := ne ah J; have av := mv I ai; have bT := mv I bp; have dF := mv I dp; have bC := mv I bd; have dd := mv I cZ; have b9 := mv I bH; have au := mv I ah; have b8 := ak (aa); clear J aa I ai bp dp bd cZ bH ah)
  | (refine aE rfl 79 (.tmp 2) rfl _ rfl ?_; intro gT W3 J aa I; have j9 := ge av J; have gW := ne au J; have ir := ne b8 J; have aD := mv I av; have cj := mv I bT; have dQ := mv I dF; have bU := mv I bC; have dA := mv I dd; have cN := mv I b9; have aA := mv I au; have b7 := mv I b8; have dK := ak (aa); clear J aa I av bT dF bC dd b9 au b8)
  | (refine aw (some 6) rfl rfl 57 rfl a9 bP ?_; intro gZ W4 J aa I; have bN := ge aD J; have aG := ne aA J; have fM := ne b7 J; have jC := ne dK J; have aY := mv I aD; have ch := mv I cj; have dE := mv I dQ; have cx := mv I bU; have dX := mv I dA; have cR := mv I cN; have aV := mv I aA; have bZ := mv I b7; have dP := mv I dK; have a8 := ak (aa); clear J aa I aD cj dQ bU dA cN aA b7 dK)
  | (refine aw (some 7) rfl rfl 62 rfl dG (fun _ => by kernel_rfl) ?_; intro gU W5 J aa I; have fu := ge aY J; have gC := ne aV J; have dw := ne bZ J; have jD := ne dP J; have gB := ne a8 J; have bf := mv I aY; have cb := mv I ch; have de := mv I dE; have cJ := mv I cx; have ee := mv I dX; have cG := mv I cR; have bb := mv I aV; have cB := mv I bZ; have bx := mv I dP; have bu := mv I a8; have eH := ak (aa); have jA := bx.out.cell 0 _ rfl; have gR := bx.out.cell 1 _ rfl; have jz := bx.out.cell 2 _ rfl; have jy := bx.out.cell 3 _ rfl; have jx := bx.out.cell 4 _ rfl; have gv := bx.out.cell 5 _ rfl; clear J aa I aY ch dE cx dX cR aV bZ dP a8))
 go_cut [9] from 38 to 39 (fun s9 wx => s9 = .slice Al lt.length cl ∧ W5 = wx)
 case first =>
  rcases Nat.lt_or_ge 80 l.length with k8 | k8
  ·have kZ : decide ((80 : Int) < (l.length : Int)) = true := by simp; omega
   have tJ : (((0 : Int) ≤ 80 ∧ (80 : Int) ≤ (cl : Int)) = True) := eq_true ⟨by omega, by have := HCL.out; omega⟩
   have tI : (((80 : Int) ≤ (cl : Int)) = True) := eq_true (by have := HCL.out; omega)
   go_wp2_with fail
   go_meet
   exact ⟨by rw [HLL.out, Nat.min_eq_left (by omega)], rfl⟩
  ·have kZ : decide ((80 : Int) < (l.length : Int)) = false := by simp; omega
   go_wp2_with fail
   go_meet
   exact ⟨by rw [HLL.out, Nat.min_eq_right (by omega)], rfl⟩
 case rest =>
 obtain ⟨fY, fX⟩ := hcut
 subst fY
 subst fX
 go_wp2_with fail
 have aj : Below W5.heap.size W5 W5.drew := bo (Below.refl _ _)
 have bG := mv aj bf; have cQ := mv aj cb; have dt := mv aj de; have cY := mv aj cJ; have ef := mv aj ee; have dD := mv aj cG; have bh := mv aj bb; have cX := mv aj cB; have fh := mv aj bx; have bS := mv aj bu; have dW := mv aj eH
 clear aj bf cb de cJ ee cG bb cB bx bu eH jA gR jz jy jx gv
 have hB := bG
 have hF := cQ
 have hG := dt
 have hS := cY
 have hP := ef
 have hM := dD
 have hX := bh
 have hY := cX
 have hT := fh
 have hZ := bS
 have hU := dW
 clear bG cQ dt cY ef dD bh cX fh bS dW
 refine cW (n := 5) (S := fun w' => aH w' gX (aZ b.addr b.aff b.slots (.slice Af b.free.length cf) (.slice Aa b.attrs.length ca)) 57 ∧ aH w' gY (da b.addr b.aff (.slice As b.slots.length cs) (.slice Ap b.free.length cp) (.slice Am M.length cm)) 62) (ds := []) #[false, false, false, false, false] (by kernel_rfl) rfl rfl ⟨hX.out, hY.out⟩ (fun hHeld => ?_); refine bK lD.tab37 lD.bits37 (fun ab bj => ?_)
 refine tk 0 ab.out bj.out hHeld ?_ (hv := by exact fun _ aU => aI 57 (.tmp 3) rfl gX rfl _ _ _ aU.1 Try.underlying57 rfl HLB.out)
 refine tk 1 ab.out bj.out hHeld ?_ (hv := by exact fun _ aU => aI 62 (.tmp 4) rfl gY rfl _ _ _ aU.2 Try.underlying62 rfl (by kernel_rfl))
 refine ow 2 ab.out (fun K hK => ?_)
 refine bA (by rfl) rfl 57 (.tmp 6) (.tmp 235) rfl gZ (aZ b.addr b.aff b.slots (.slice Af b.free.length cf) (.slice Aa b.attrs.length ca)) rfl rfl 57 _ hZ.out 68 (by kernel_rfl) (ag _ _ _ _ _ HL.out) rfl (b4 _ _ _ _ _ rfl rfl) ?_
 intro V2 aa J; replace hB := gb hB bN J; replace hF := gr hF hZ J; replace hG := gr hG hZ J; replace hS := gr hS hZ J; replace hP := gr hP hZ J; replace hM := gr hM hZ J; replace hX := gn hX aG J; replace hY := gx hY hZ J; replace hT := gx hT hZ J; replace hU := gx hU hZ J; replace hZ := ak (aa); clear aa J
 refine hK.out _ _ ⟨hX.out, hY.out⟩ (fun hHeld => ?_)
 clear hK K
 refine ow 3 ab.out (fun K hK => ?_)
 refine bA (by rfl) rfl 62 (.tmp 7) (.tmp 236) rfl gU (da b.addr b.aff (.slice As b.slots.length cs) (.slice Ap b.free.length cp) (.slice Am M.length cm)) rfl rfl 62 _ hU.out 5 (by kernel_rfl) rfl rfl (dJ _ _ rfl rfl rfl) ?_
 intro V3 aa J; replace hB := gb hB fu J; replace hF := gr hF hU J; replace hG := gr hG hU J; replace hS := gr hS hU J; replace hP := gr hP hU J; replace hM := gr hM hU J; replace hX := gx hX hU J; replace hY := gn hY dw J; replace hT := gx hT hU J; replace hZ := gx hZ hU J; replace hU := ak (aa); clear aa J
 refine hK.out _ _ ⟨hX.out, hY.out⟩ (fun hHeld => ?_)
 clear hK K
 refine pu 4 ab.out ?_
 refine dn ab.out ?_
 clear hHeld
 go_wp2_with fail
 refine bodyPost_ret (eK rfl _ _ _ gZ gU 57 62 _ _ _ _ rfl hZ.out rfl Try.underlying57 (by first | exact HLB.out | exact HLN _ _ _ _) rfl hU.out rfl Try.underlying62 (by kernel_rfl)) rfl ⟨_, _, b, rfl, ?_, ?_, ?_, hB.out⟩
 ·exact HG.out
 ·exact ⟨HL.out, _, _, rfl, hF.out, hG.out⟩
 ·exact ⟨_, _, _, rfl, hS.out, hP.out, by rw [← HM.out]; exact hM.out⟩
end Go.Proofs.Ytemhalnhbgkbcaa.V
end

section
namespace Go.Proofs.Ytemhalnhbgkbcaa.V
set_option maxHeartbeats 16000000 in
set_option maxRecDepth 100000 in
theorem LP (b : Bk) (hg : RG b) (n : Int) (hn : n < 9223372036854775808) (a : kz) (e7 : a.f0.size ≤ 9223372036854775807) (fE : a.f1.size ≤ 9223372036854775807) (l : List Int) (hu : ∀ x ∈ l, 0 ≤ x ∧ x < 4294967296) (hlm : l.length ≤ 9223372036854775807) (Al : Option Addr) (cl : Nat) (hcl : l.length ≤ cl) (aff : ByteArray) (hza : aff.size ≤ 9223372036854775807) (v v2 : Value) (w : World) (base : Nat) (hbase : base ≤ w.heap.size) (hO : ea w base v b) (hR : eG w base v2 b) (hC : Kd.C (Kd.int .u32) w Al l.length l) :
  Calls Try.prog 47 #[v, v2, .agg #[.int .i64 4, .int .i64 n, .string a.f0, .string a.f1, .slice Al l.length cl, .string aff]] w fun e w' => ∃ v1 v2 b', e = .returned (.tuple #[v1, v2, .bool true]) ∧ RG b' ∧ ea w' base v1 b' ∧ eG w' base v2 b' ∧ Below w.heap.size w w' := by
 obtain ⟨hl, vf, va, rfl, hf, ha⟩ := hO
 obtain ⟨vs, vp, vm, rfl, hs, hp, hm⟩ := hR
 obtain ⟨Af, cf, rfl⟩ := Kd.R_slice hf
 obtain ⟨Aa, ca, rfl⟩ := Kd.R_slice ha
 obtain ⟨As, cs, rfl⟩ := Kd.R_slice hs
 obtain ⟨Ap, cp, rfl⟩ := Kd.R_slice hp
 obtain ⟨M, hM⟩ : ∃ M, M = b.attrs.map vc := ⟨_, rfl⟩
 rw [← hM] at hm
 obtain ⟨Am, cm, rfl⟩ := Kd.R_slice hm
 have HL := ak hl
 have HM := ak hM
 have bw := ak hf
 have dY := ak ha
 have aX := ak hs
 have dT := ak hp
 have bD := ak hm
 have HG := ak hg
 have ae := ak (Below.refl w.heap.size w)
 have HBASE := ak hbase
 have HLB := ak (cg (aZ b.addr b.aff b.slots (.slice Af b.free.length cf) (.slice Aa b.attrs.length ca)) (ag _ _ _ _ _ HL.out))
 obtain ⟨lt, hlt⟩ : ∃ lt, lt = l.take 80 := ⟨_, rfl⟩
 have hut : ∀ x ∈ lt, 0 ≤ x ∧ x < 4294967296 := fun x hx => hu x (by rw [hlt] at hx; exact List.mem_of_mem_take hx)
 have hll : lt.length = min 80 l.length := by rw [hlt, List.length_take]
 have HCL := ak hcl
 have HLL := ak hll
 have HC := ak hC
 have HCT := ak (fun W (I : Below w.heap.size w W) => (show Kd.C (Kd.int .u32) W Al lt.length lt by
  rcases Nat.lt_or_ge 80 l.length with h | h
  ·have h_ := Kd.C_take (m := 80) (Kd.C_below hC I) (by omega)
   rw [← hlt] at h_
   exact h_
  ·have h_ := Kd.C_below hC I
   have e : lt = l := by rw [hlt, List.take_of_length_le h]
   rw [e]
   exact h_))
 have hp := iw hg.right
 have hrg := hg.rel lt
 have hbl := fun v w h hC => oC b hg.ok lt hut (by omega) Al cl hg.right v w h hC
 have hrl := fun v w h hC => pX b hg.ok hp hl lt hut (by omega) Al cl v w h hC
 rw [vV hg] at hrl
 obtain ⟨nb, hnb⟩ : ∃ nb, nb = lC b lt := ⟨_, rfl⟩
 obtain ⟨oo, hoo⟩ : ∃ oo, oo = (relL b lt).2 := ⟨_, rfl⟩
 rw [← hnb, ← hoo] at hbl hrl
 rw [← hnb] at hrg
 have hol : oo.length ≤ 1000 := by rw [hoo]; have h_ := (sD hg.ok hp hl lt lt.length (Nat.le_refl _)).ol; rw [List.take_length] at h_; omega
 have HRG := ak hrg
 have HNL := ak hrg.l64
 have HOL := ak hol
 have HLN := fun A8 c8 A9 c9 => cg (aZ nb.addr nb.aff nb.slots (.slice A8 nb.free.length c8) (.slice A9 nb.attrs.length c9)) (ag _ _ _ _ _ HNL.out)
 have HBL := ak hbl
 have HRL := ak hrl
 clear hrg hbl hrl hol hnb hoo hp
 clear hl hM hf ha hs hp hm hbase hC hu hut hll hcl hlt hg
 go_enter Try.func47, Try.ntmps47
 go_upto_if 37 with (first
  | (refine aE rfl 57 (.tmp 0) rfl _ rfl ?_; intro gX W1 J aa I; have bQ := ge ae J; have ai := ak (ae.out.trans (I.mono ae.out.size)); have bp := mv I bw; have dp := mv I dY; have bd := mv I aX; have cZ := mv I dT; have bH := mv I bD; have ah := ak (aa); clear J aa I ae bw dY aX dT bD)
  | (refine aE rfl 62 (.tmp 1) rfl _ rfl ?_; intro gY W2 J aa I; have iX := ge ai J; have fB := ne ah J; have av := mv I ai; have bT := mv I bp; have dF := mv I dp; have bC := mv I bd; have dd := mv I cZ; have b9 := mv I bH; have au := mv I ah; have b8 := ak (aa); clear J aa I ai bp dp bd cZ bH ah)
  | (refine aE rfl 79 (.tmp 2) rfl _ rfl ?_; intro gT W3 J aa I; have j9 := ge av J; have gW := ne au J; have ir := ne b8 J; have aD := mv I av; have cj := mv I bT; have dQ := mv I dF; have bU := mv I bC; have dA := mv I dd; have cN := mv I b9; have aA := mv I au; have b7 := mv I b8; have dK := ak (aa); clear J aa I av bT dF bC dd b9 au b8)
  | (refine aw (some 6) rfl rfl 57 rfl a9 bP ?_; intro gZ W4 J aa I; have bN := ge aD J; have aG := ne aA J; have fM := ne b7 J; have jC := ne dK J; have aY := mv I aD; have ch := mv I cj; have dE := mv I dQ; have cx := mv I bU; have dX := mv I dA; have cR := mv I cN; have aV := mv I aA; have bZ := mv I b7; have dP := mv I dK; have a8 := ak (aa); clear J aa I aD cj dQ bU dA cN aA b7 dK)
  | (refine aw (some 7) rfl rfl 62 rfl dG (fun _ => by kernel_rfl) ?_; intro gU W5 J aa I; have fu := ge aY J; have gC := ne aV J; have dw := ne bZ J; have jD := ne dP J; have gB := ne a8 J; have bf := mv I aY; have cb := mv I ch; have de := mv I dE; have cJ := mv I cx; have ee := mv I dX; have cG := mv I cR; have bb := mv I aV; have cB := mv I bZ; have bx := mv I dP; have bu := mv I a8; have eH := ak (aa); have jA := bx.out.cell 0 _ rfl; have gR := bx.out.cell 1 _ rfl; have jz := bx.out.cell 2 _ rfl; have jy := bx.out.cell 3 _ rfl; have jx := bx.out.cell 4 _ rfl; have gv := bx.out.cell 5 _ rfl; clear J aa I aY ch dE cx dX cR aV bZ dP a8))
 go_cut [9] from 38 to 39 (fun s9 wx => s9 = .slice Al lt.length cl ∧ W5 = wx)
 case first =>
  rcases Nat.lt_or_ge 80 l.length with k8 | k8
  ·have kZ : decide ((80 : Int) < (l.length : Int)) = true := by simp; omega
   have tJ : (((0 : Int) ≤ 80 ∧ (80 : Int) ≤ (cl : Int)) = True) := eq_true ⟨by omega, by have := HCL.out; omega⟩
   have tI : (((80 : Int) ≤ (cl : Int)) = True) := eq_true (by have := HCL.out; omega)
   go_wp2_with fail
   go_meet
   exact ⟨by rw [HLL.out, Nat.min_eq_left (by omega)], rfl⟩
  ·have kZ : decide ((80 : Int) < (l.length : Int)) = false := by simp; omega
   go_wp2_with fail
   go_meet
   exact ⟨by rw [HLL.out, Nat.min_eq_right (by omega)], rfl⟩
 case rest =>
 obtain ⟨fY, fX⟩ := hcut
 subst fY
 subst fX
 go_wp2_with (first
  | ((with_reducible refine ax (N := 116) rfl ?_); refine az rfl 57 (.tmp 3) rfl gX rfl _ _ _ bb.out Try.underlying57 rfl 68 (by kernel_rfl) (ag _ _ _ _ _ HL.out) ?_)
  | (go_at_call 52; refine (HBL.out _ _ ⟨_, _, _, _, rfl, ⟨HL.out, (rr cb).1, (rr cb).2, (rr de).1, (rr de).2⟩⟩ (HCT.out _ bf.out)).mono ?_; rintro e W6 ⟨v_, kX, rfl, aW, e8, I⟩; have HSZ := ak (lb HBASE bf); obtain ⟨iD, oP, oQ, rfl, di, dO⟩ := aW; obtain ⟨A8, c8, rfl⟩ := Kd.R_slice di; obtain ⟨A9, c9, rfl⟩ := Kd.R_slice dO; obtain ⟨Ao, co, rfl⟩ := Kd.R_slice e8; have bG := mv I bf; have cQ := mv I cb; have dt := mv I de; have cY := mv I cJ; have ef := mv I ee; have dD := mv I cG; have bh := mv I bb; have cX := mv I cB; have fh := mv I bx; have bS := mv I bu; have dW := mv I eH; have n6 := ak (Kd.R_lower di HSZ.out); have nY := ak (Kd.R_lower dO HSZ.out); have mF := ak (Kd.R_lower e8 HSZ.out); clear HSZ iD di dO e8 I bf cb de cJ ee cG bb cB bx bu eH jA gR jz jy jx gv)
  | (refine aw (some 15) rfl rfl 57 rfl a9 bP ?_; intro gQ W7 J aa I; have cE := ge bG J; have bk := ne bh J; have tl := ne cX J; have tp := ne fh J; have a7 := ne bS J; have tm := ne dW J; have dU := mv I bG; have eZ := mv I cQ; have je := mv I dt; have fN := mv I cY; have l6 := mv I ef; have jF := mv I dD; have dj := mv I bh; have iN := mv I cX; have nN := mv I fh; have dz := mv I bS; have nM := mv I dW; have n5 := mv I n6; have nX := mv I nY; have mE := mv I mF; have dx := ak (aa); clear J aa I bG cQ dt cY ef dD bh cX fh bS dW n6 nY mF)
  | (refine aN rfl 57 (.tmp 15) (.tmp 119) rfl gQ (aZ nb.addr nb.aff nb.slots (.slice A8 nb.free.length c8) (.slice A9 nb.attrs.length c9)) rfl rfl 57 _ dx.out 68 (by kernel_rfl) (ag _ _ _ _ _ HNL.out) rfl (b4 _ _ _ _ _ rfl rfl) ?_; intro W8 aa J; have gM := gb dU cE J; have kh := gr eZ dx J; have kg := gr je dx J; have ly := gr fN dx J; have m3 := gr l6 dx J; have m5 := gr jF dx J; have gK := gn dj bk J; have lv := gx iN dx J; have mD := gx nN dx J; have fH := gn dz a7 J; have nL := gx nM dx J; have n2 := gr n5 dx J; have nW := gr nX dx J; have pd := gr mE dx J; have nQ := ak (aa); clear aa J dU eZ je fN l6 jF dj iN nN dz nM n5 nX mE dx)
  | ((with_reducible refine ax (N := 123) rfl ?_); refine az rfl 62 (.tmp 4) rfl gY rfl _ _ _ lv.out Try.underlying62 rfl 5 (by kernel_rfl) rfl ?_)
  | (go_at_call 84; refine (HRL.out _ _ ⟨M, As, cs, Ap, cp, Am, cm, rfl, (jd.of HM.out ly.out m3.out m5.out)⟩ (HCT.out _ gM.out)).mono ?_; rintro e W9 ⟨v9, pR, rfl, fC, kY, I⟩; have HSZ := ak (lb HBASE gM); obtain ⟨tT, qE, qF, rfl, fZ, fb, ep⟩ := fC; obtain ⟨A1, c1, rfl⟩ := Kd.R_slice fZ; obtain ⟨A2, c2, rfl⟩ := Kd.R_slice fb; obtain ⟨NM, hNM⟩ : ∃ NM, NM = nb.attrs.map vc := ⟨_, rfl⟩; rw [← hNM] at ep; have HNM := ak hNM; obtain ⟨A3, c3, rfl⟩ := Kd.R_slice ep; obtain ⟨Co, Bz, rfl⟩ := Kd.R_slice kY; have ki := mv I gM; have m8 := mv I kh; have m7 := mv I kg; have kV := mv I ly; have m2 := mv I m3; have m4 := mv I m5; have kf := mv I gK; have kU := mv I lv; have mC := mv I mD; have j3 := mv I fH; have mZ := mv I nL; have n1 := mv I n2; have nV := mv I nW; have uI := mv I pd; have m0 := mv I nQ; have Ch := ak (Kd.R_lower fZ HSZ.out); have Mo := ak (Kd.R_lower fb HSZ.out); have Mw := ak (Kd.R_lower ep HSZ.out); have tx := ak (Kd.R_lower kY HSZ.out); clear HSZ hNM fZ fb ep kY I gM kh kg ly m3 m5 gK lv mD fH nL n2 nW pd nQ)
  | (refine aw (some 18) rfl rfl 62 rfl dG (fun _ => by kernel_rfl) ?_; intro gV Ou J aa I; have df := ge ki J; have fx := ne kf J; have eC := ne kU J; have tn := ne mC J; have jZ := ne j3 J; have dV := ne mZ J; have tq := ne m0 J; have mm := mv I ki; have rP := mv I m8; have rM := mv I m7; have nP := mv I kV; have rC := mv I m2; have rH := mv I m4; have mh := mv I kf; have oJ := mv I kU; have pH := mv I mC; have mU := mv I j3; have pE := mv I mZ; have rV := mv I n1; have rS := mv I nV; have Il := mv I uI; have pK := mv I m0; have rJ := mv I Ch; have xA := mv I Mo; have xU := mv I Mw; have Ce := mv I tx; have j8 := ak (aa); clear J aa I ki m8 m7 kV m2 m4 kf kU mC j3 mZ n1 nV uI m0 Ch Mo Mw tx)
  | (refine aN rfl 62 (.tmp 18) (.tmp 126) rfl gV (da nb.addr nb.aff (.slice A1 nb.slots.length c1) (.slice A2 nb.free.length c2) (.slice A3 NM.length c3)) rfl rfl 62 _ j8.out 5 (by kernel_rfl) rfl rfl (dJ _ _ rfl rfl rfl) ?_; intro Hv aa J; have rZ := gb mm df J; have xQ := gr rP j8 J; have xJ := gr rM j8 J; have ru := gr nP j8 J; have xn := gr rC j8 J; have xu := gr rH j8 J; have nJ := gx mh j8 J; have wR := gn oJ eC J; have xa := gx pH j8 J; have rf := gx mU j8 J; have wY := gn pE dV J; have yc := gr rV j8 J; have xY := gr rS j8 J; have Ik := gr Il j8 J; have xj := gx pK j8 J; have pL := gr rJ j8 J; have xz := gr xA j8 J; have xT := gr xU j8 J; have FL := gr Ce j8 J; have jN := ak (aa); clear aa J mm rP rM nP rC rH mh oJ pH mU pE rV rS Il pK rJ xA xU Ce j8))
 have aj : Below Hv.heap.size Hv Hv.drew := bo (Below.refl _ _)
 have rY := mv aj rZ; have xP := mv aj xQ; have xI := mv aj xJ; have pI := mv aj ru; have xm := mv aj xn; have xt := mv aj xu; have nI := mv aj nJ; have wQ := mv aj wR; have vn := mv aj xa; have pD := mv aj rf; have wX := mv aj wY; have yb := mv aj yc; have xX := mv aj xY; have Ij := mv aj Ik; have xi := mv aj xj; have oL := mv aj pL; have xy := mv aj xz; have xS := mv aj xT; have FJ := mv aj FL; have iT := mv aj jN
 clear aj rZ xQ xJ ru xn xu nJ wR xa rf wY yc xY Ik xj pL xz xT FL jN
 have hB := rY
 have hF := xP
 have hG := xI
 have hS := pI
 have hP := xm
 have hM := xt
 have hX := nI
 have hY := wQ
 have hT := vn
 have hZ := pD
 have hU := wX
 have hC := yb
 have hD := xX
 have hO := Ij
 have hQ := xi
 have hI := oL
 have hJ := xy
 have hE := xS
 have gq := FJ
 have hV := iT
 clear rY xP xI pI xm xt nI wQ vn pD wX yb xX Ij xi oL xy xS FJ iT
 refine cW (n := 12) (S := fun w' => aH w' gQ (aZ nb.addr nb.aff nb.slots (.slice A8 nb.free.length c8) (.slice A9 nb.attrs.length c9)) 57 ∧ aH w' gV (da nb.addr nb.aff (.slice A1 nb.slots.length c1) (.slice A2 nb.free.length c2) (.slice A3 NM.length c3)) 62) (ds := []) #[false, false, false, false, false, false, false, false, false, false, false, false] (by kernel_rfl) rfl rfl ⟨hQ.out, hV.out⟩ (fun hHeld => ?_); refine bK qQ.tab19 qQ.bits19 (fun ab bj => ?_)
 refine tk 0 ab.out bj.out hHeld ?_ (hv := by exact fun _ aU => aI 57 (.tmp 15) rfl gQ rfl _ _ _ aU.1 Try.underlying57 rfl (HLN _ _ _ _))
 refine tk 1 ab.out bj.out hHeld ?_ (hv := by exact fun _ aU => aI 62 (.tmp 18) rfl gV rfl _ _ _ aU.2 Try.underlying62 rfl (by kernel_rfl))
 refine pu 2 ab.out ?_
 refine pu 3 ab.out ?_
 refine pu 4 ab.out ?_
 refine pu 5 ab.out ?_
 refine pu 6 ab.out ?_
 refine on 7 ab.out (fun K hK => ?_)
 refine gs Try.func61 #[(.slice Ao oo.length co), (.slice Co oo.length Bz)] (nD oo HOL.out _ _ _ _ _ (Kd.R_reads' hO.out).2.2 (Kd.R_reads' hO.out).2.1 (Kd.R_reads' gq.out).2.2 (Kd.R_reads' gq.out).2.1) ?_
 rintro e V7 ⟨rfl, I⟩
 refine ⟨_, rfl, ?_⟩
 replace hB := mv I hB; replace hF := mv I hF; replace hG := mv I hG; replace hS := mv I hS; replace hP := mv I hP; replace hM := mv I hM; replace hX := mv I hX; replace hY := mv I hY; replace hT := mv I hT; replace hZ := mv I hZ; replace hU := mv I hU; replace hC := mv I hC; replace hD := mv I hD; replace hO := mv I hO; replace hQ := mv I hQ; replace hI := mv I hI; replace hJ := mv I hJ; replace hE := mv I hE; replace gq := mv I gq; replace hV := mv I hV
 refine kn hK ⟨hQ.out, hV.out⟩ (fun hHeld => ?_)
 clear hK K
 refine pu 8 ab.out ?_
 refine ow 9 ab.out (fun K hK => ?_)
 refine bA (by rfl) rfl 57 (.tmp 6) (.tmp 128) rfl gZ (aZ nb.addr nb.aff nb.slots (.slice A8 nb.free.length c8) (.slice A9 nb.attrs.length c9)) rfl rfl 57 _ hZ.out 68 (by kernel_rfl) (ag _ _ _ _ _ HNL.out) rfl (b4 _ _ _ _ _ rfl rfl) ?_
 intro V9 aa J; replace hB := gb hB bN J; replace hF := gr hF hZ J; replace hG := gr hG hZ J; replace hS := gr hS hZ J; replace hP := gr hP hZ J; replace hM := gr hM hZ J; replace hX := gn hX aG J; replace hY := gx hY hZ J; replace hT := gx hT hZ J; replace hU := gx hU hZ J; replace hC := gr hC hZ J; replace hD := gr hD hZ J; replace hO := gr hO hZ J; replace hQ := gm hQ a7 J; replace hI := gr hI hZ J; replace hJ := gr hJ hZ J; replace hE := gr hE hZ J; replace gq := gr gq hZ J; replace hV := gx hV hZ J; replace hZ := ak (aa); clear aa J
 refine hK.out _ _ ⟨hQ.out, hV.out⟩ (fun hHeld => ?_)
 clear hK K
 refine ow 10 ab.out (fun K hK => ?_)
 refine bA (by rfl) rfl 62 (.tmp 7) (.tmp 129) rfl gU (da nb.addr nb.aff (.slice A1 nb.slots.length c1) (.slice A2 nb.free.length c2) (.slice A3 NM.length c3)) rfl rfl 62 _ hU.out 5 (by kernel_rfl) rfl rfl (dJ _ _ rfl rfl rfl) ?_
 intro wJ aa J; replace hB := gb hB fu J; replace hF := gr hF hU J; replace hG := gr hG hU J; replace hS := gr hS hU J; replace hP := gr hP hU J; replace hM := gr hM hU J; replace hX := gx hX hU J; replace hY := gn hY dw J; replace hT := gx hT hU J; replace hZ := gx hZ hU J; replace hC := gr hC hU J; replace hD := gr hD hU J; replace hO := gr hO hU J; replace hQ := gx hQ hU J; replace hI := gr hI hU J; replace hJ := gr hJ hU J; replace hE := gr hE hU J; replace gq := gr gq hU J; replace hV := gm hV dV J; replace hU := ak (aa); clear aa J
 refine hK.out _ _ ⟨hQ.out, hV.out⟩ (fun hHeld => ?_)
 clear hK K
 refine pu 11 ab.out ?_
 refine dn ab.out ?_
 clear hHeld
 go_wp2_with fail
 refine bodyPost_ret (eK rfl _ _ _ gZ gU 57 62 _ _ _ _ rfl hZ.out rfl Try.underlying57 (by first | exact HLB.out | exact HLN _ _ _ _) rfl hU.out rfl Try.underlying62 (by kernel_rfl)) rfl ⟨_, _, nb, rfl, ?_, ?_, ?_, hB.out⟩
 ·exact HRG.out
 ·exact ⟨HNL.out, _, _, rfl, hC.out, hD.out⟩
 ·exact ⟨_, _, _, rfl, hI.out, hJ.out, by rw [← HNM.out]; exact hE.out⟩
end Go.Proofs.Ytemhalnhbgkbcaa.V
end

