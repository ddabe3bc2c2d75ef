/- The law BlockBack for every input: texts of ours, put together (part 13 of 16). No further condition. -/
import Derived.Test.YtemhalnhbgkbcaaCBlockBackx2
import Derived.Test.YtemhalnhbgkbcaaCBlockBackx6
import Derived.Test.YtemhalnhbgkbcaaCBlockBackx11
import Derived.Outline
set_option linter.unusedVariables false
set_option linter.unusedSimpArgs false
open Go.RowKit Go.Proofs.YtemhalnhbgkbcaaW.PrintWords Go.Proofs.YtemhalnhbgkbcaaW.PrintLast Go.Proofs.YtemhalnhbgkbcaaW.PrintMore Go.Proofs.Ytemhalnhbgkbcaa.Z
section
namespace Go.Proofs.Ytemhalnhbgkbcaa.V
set_option maxHeartbeats 16000000 in
set_option maxRecDepth 100000 in
theorem LV (b : Bk) (hg : RG b) (kd : Int) (hkd : kd = 0 ∨ kd = 1) (n : Int) (hn : n < 9223372036854775808) (a : kD) (e9 : a.f0.size ≤ 9223372036854775807) (fB : a.f1.size ≤ 9223372036854775807) (l : List Int) (hu : ∀ x ∈ l, 0 ≤ x ∧ x < 4294967296) (hlm : l.length ≤ 9223372036854775807) (Al : Option Addr) (cl : Nat) (hcl : l.length ≤ cl) (aff : ByteArray) (hza : aff.size ≤ 9223372036854775807) (hma : eP (cv a) = false) (v v2 : Value) (w : World) (base : Nat) (hbase : base ≤ w.heap.size) (hO : ee w base v b) (hR : eM w base v2 b) (hC : Kd.C (Kd.int .u32) w Al l.length l) :
  Calls Try.prog 47 #[v, v2, .agg #[.int .i64 kd, .int .i64 n, .string a.f0, .string a.f1, .slice Al l.length cl, .string aff]] w fun e w' => ∃ v1 v2 b', e = .returned (.tuple #[v1, v2, .bool true]) ∧ RG b' ∧ ee w' base v1 b' ∧ eM w' base v2 b' ∧ Below w.heap.size w w' := by
 obtain ⟨hl, vf, va, rfl, hf, ha⟩ := hO
 obtain ⟨vs, vp, vm, rfl, hs, hp, hm⟩ := hR
 obtain ⟨Af, cf, rfl⟩ := Kd.R_slice hf
 obtain ⟨Aa, ca, rfl⟩ := Kd.R_slice ha
 obtain ⟨As, cs, rfl⟩ := Kd.R_slice hs
 obtain ⟨Ap, cp, rfl⟩ := Kd.R_slice hp
 obtain ⟨M, hM⟩ : ∃ M, M = b.attrs.map vc := ⟨_, rfl⟩
 rw [← hM] at hm
 obtain ⟨Am, cm, rfl⟩ := Kd.R_slice hm
 have HL := ak hl
 have HM := ak hM
 have bl := ak hf
 have dg := ak ha
 have aZ := ak hs
 have ed := ak hp
 have bL := ak hm
 have HG := ak hg
 have ae := ak (Below.refl w.heap.size w)
 have HBASE := ak hbase
 have HLB := ak (b9 (aX b.addr b.aff b.slots (.slice Af b.free.length cf) (.slice Aa b.attrs.length ca)) (ag _ _ _ _ _ HL.out))
 obtain ⟨lt, hlt⟩ : ∃ lt, lt = l.take 80 := ⟨_, rfl⟩
 have hut : ∀ x ∈ lt, 0 ≤ x ∧ x < 4294967296 := fun x hx => hu x (by rw [hlt] at hx; exact List.mem_of_mem_take hx)
 have hll : lt.length = min 80 l.length := by rw [hlt, List.length_take]
 have HCL := ak hcl
 have HLL := ak hll
 have HC := ak hC
 have HCT := ak (fun W (I : Below w.heap.size w W) => (show Kd.C (Kd.int .u32) W Al lt.length lt by
  rcases Nat.lt_or_ge 80 l.length with h | h
  ·have h_ := Kd.C_take (m := 80) (Kd.C_below hC I) (by omega)
   rw [← hlt] at h_
   exact h_
  ·have h_ := Kd.C_below hC I
   have e : lt = l := by rw [hlt, List.take_of_length_le h]
   rw [e]
   exact h_))
 have hbl := fun v w h => nL b hg.ok n hn (cv a) v w h
 have hok : kF b n (cv a) = false := by unfold kF; rw [hma]; simp
 rw [hok] at hbl
 simp only [Bool.false_eq_true, if_false, if_true] at hbl
 have HMY := ak (fun w => pc a e9 fB w)
 rw [hma] at HMY
 obtain ⟨nb, hnb⟩ : ∃ nb, nb = jS := ⟨_, rfl⟩
 have hnl : jS.slots.length = 64 := rfl
 rw [← hnb] at hbl hnl
 have HNB := ak hnb
 have HNL := ak hnl
 have HLN := fun A8 c8 A9 c9 => b9 (aX nb.addr nb.aff nb.slots (.slice A8 nb.free.length c8) (.slice A9 nb.attrs.length c9)) (ag _ _ _ _ _ HNL.out)
 have HZR := ak (fun v w h => oy v w (by rw [← HNB.out]; exact h))
 obtain ⟨oo, hoo⟩ : ∃ oo : List Int, oo = [] := ⟨_, rfl⟩
 rw [← hoo] at hbl
 have o0 : decide ((oo.length : Int) = 0) = true := by rw [hoo]; rfl
 have o1 : ((oo.length : Int) == 0) = true := by rw [hoo]; rfl
 have o2 : ((oo.length : Int) = 0) = True := by rw [hoo]; simp
 have o3 : (oo.length = 0) = True := by rw [hoo]; simp
 have o4 : (oo = []) = True := eq_true hoo
 have HBL := ak hbl
 clear hbl hnb hnl hma hok hoo
 have HKD := ak hkd
 clear hkd
 clear hl hM hf ha hs hp hm hbase hC hu hut hll hcl hlt hg
 go_enter Try.func47, Try.ntmps47
 go_upto_if 37 with (first
  | (refine aE rfl 57 (.tmp 0) rfl _ rfl ?_; intro gX W1 J aa I; have bS := ge ae J; have aj := ak (ae.out.trans (I.mono ae.out.size)); have bg := mv I bl; have cH := mv I dg; have bd := mv I aZ; have dc := mv I ed; have bG := mv I bL; have ah := ak (aa); clear J aa I ae bl dg aZ ed bL)
  | (refine aE rfl 62 (.tmp 1) rfl _ rfl ?_; intro gY W2 J aa I; have iZ := ge aj J; have fD := ne ah J; have aw := mv I aj; have bM := mv I bg; have dh := mv I cH; have bF := mv I bd; have dp := mv I dc; have cw := mv I bG; have au := mv I ah; have cr := ak (aa); clear J aa I aj bg cH bd dc bG ah)
  | (refine aE rfl 79 (.tmp 2) rfl _ rfl ?_; intro gT W3 J aa I; have ki := ge aw J; have gW := ne au J; have ix := ne cr J; have aD := mv I aw; have cg := mv I bM; have dL := mv I dh; have b6 := mv I bF; have ec := mv I dp; have dq := mv I cw; have aA := mv I au; have cE := mv I cr; have dQ := ak (aa); clear J aa I aw bM dh bF dp cw au cr)
  | (refine ax (some 6) rfl rfl 57 rfl a7 bJ ?_; intro gZ W4 J aa I; have bO := ge aD J; have aG := ne aA J; have fP := ne cE J; have jG := ne dQ J; have aW := mv I aD; have cd := mv I cg; have dB := mv I dL; have cP := mv I b6; have ey := mv I ec; have dw := mv I dq; have aV := mv I aA; have b5 := mv I cE; have dT := mv I dQ; have bb := ak (aa); clear J aa I aD cg dL b6 ec dq aA cE dQ)
  | (refine ax (some 7) rfl rfl 62 rfl dM (fun _ => by kernel_rfl) ?_; intro gU W5 J aa I; have fx := ge aW J; have gF := ne aV J; have dE := ne b5 J; have jH := ne dT J; have gE := ne bb J; have bf := mv I aW; have b8 := mv I cd; have cW := mv I dB; have cY := mv I cP; have er := mv I ey; have cQ := mv I dw; have a9 := mv I aV; have du := mv I b5; have bw := mv I dT; have bu := mv I bb; have ev := ak (aa); have jE := bw.out.cell 0 _ rfl; have gS := bw.out.cell 1 _ rfl; have jD := bw.out.cell 2 _ rfl; have jC := bw.out.cell 3 _ rfl; have jB := bw.out.cell 4 _ rfl; have gB := bw.out.cell 5 _ rfl; clear J aa I aW cd dB cP ey dw aV b5 dT bb))
 go_cut [9] from 38 to 39 (fun s9 wx => s9 = .slice Al lt.length cl ∧ W5 = wx)
 case first =>
  rcases Nat.lt_or_ge 80 l.length with ll | ll
  ·have lh : decide ((80 : Int) < (l.length : Int)) = true := by simp; omega
   have tZ : (((0 : Int) ≤ 80 ∧ (80 : Int) ≤ (cl : Int)) = True) := eq_true ⟨by omega, by have := HCL.out; omega⟩
   have tY : (((80 : Int) ≤ (cl : Int)) = True) := eq_true (by have := HCL.out; omega)
   go_wp2_with fail
   go_meet
   exact ⟨by rw [HLL.out, Nat.min_eq_left (by omega)], rfl⟩
  ·have lh : decide ((80 : Int) < (l.length : Int)) = false := by simp; omega
   go_wp2_with fail
   go_meet
   exact ⟨by rw [HLL.out, Nat.min_eq_right (by omega)], rfl⟩
 case rest =>
 obtain ⟨gf, fZ⟩ := hcut
 subst gf
 subst fZ
 go_upto_if 42 with fail
 go_cut [42] from 43 to 44 (fun tl wx => tl = .bool true ∧ W5 = wx)
 case first =>
  rcases HKD.out with bV | bV
  ·skip
   have zo : (kd = 0) = True := eq_true (by omega)
   have Fe : decide (kd = 0) = true := by simp; omega
   have E6 : (kd == 0) = true := by simp; omega
   clear bV
   go_wp2_with fail
   go_meet
   exact ⟨by first | rfl | simp [zo], rfl⟩
  ·skip
   have zo : (kd = 0) = False := eq_false (by omega)
   have Fe : decide (kd = 0) = false := by simp; omega
   have E6 : (kd == 0) = false := by simp; omega
   have Fg : (kd = 1) = True := eq_true (by omega)
   have Ps : decide (kd = 1) = true := by simp; omega
   have Pp : (kd == 1) = true := by simp; omega
   clear bV
   go_wp2_with fail
   go_meet
   exact ⟨by first | rfl | simp [Fg], rfl⟩
 case rest =>
 obtain ⟨gf, fZ⟩ := hcut
 subst gf
 subst fZ
 go_wp2_with fail
 have ai : Below W5.heap.size W5 W5.drew := bp (Below.refl _ _)
 have bD := mv ai bf; have cI := mv ai b8; have dx := mv ai cW; have dm := mv ai cY; have ew := mv ai er; have dU := mv ai cQ; have bj := mv ai a9; have cN := mv ai du; have fq := mv ai bw; have bT := mv ai bu; have dX := mv ai ev
 clear ai bf b8 cW cY er cQ a9 du bw bu ev jE gS jD jC jB gB
 have hB := bD
 have hF := cI
 have hG := dx
 have hS := dm
 have hP := ew
 have hM := dU
 have hX := bj
 have hY := cN
 have hT := fq
 have hZ := bT
 have hU := dX
 clear bD cI dx dm ew dU bj cN fq bT dX
 refine da (n := 15) (S := fun w' => aH w' gX (aX b.addr b.aff b.slots (.slice Af b.free.length cf) (.slice Aa b.attrs.length ca)) 57 ∧ aH w' gT [.int .i64 kd, .int .i64 n, .string a.f0, .string a.f1, .slice Al l.length cl, .string aff] 79) (ds := []) #[false, false, false, false, false, false, false, false, false, false, false, false, false, false, false] (by kernel_rfl) rfl rfl ⟨hX.out, hT.out⟩ (fun hHeld => ?_); refine bK pw.tab7 pw.bits7 (fun ab bq => ?_)
 refine tk 0 ab.out bq.out hHeld ?_ (hv := by exact fun _ aY => aJ 57 (.tmp 3) rfl gX rfl _ _ _ aY.1 Try.underlying57 rfl HLB.out)
 refine pu 1 ab.out ?_
 refine tk 2 ab.out bq.out hHeld ?_ (hv := by intro w' aY; have Ds := aY.2.cell 1 _ rfl; go_simp; with_reducible rfl)
 refine pu 3 ab.out ?_
 refine tk 4 ab.out bq.out hHeld ?_ (hv := by exact fun _ aY => nG 76 (.tmp 49) rfl gT 2 rfl _ _ [.string a.f0, .string a.f1] _ aY.2 uD Try.underlying76 rfl (by kernel_rfl))
 refine oS (σ := Nat × Value × Value) 3 #[true, true, true, true, true, true, true, true, true, true, true, true, false, false, false] (fun s => [(51, et (cv a)), (52, .tuple #[s.2.1, s.2.2, .int .i64 1]), (45, .tuple #[s.2.1, s.2.2, .int .i64 1]), (53, s.2.1), (54, s.2.2), (55, .int .i64 1), (10, .pointer (some ⟨s.1, 0, none⟩))]) (fun s w' => Aside0 (Below w.heap.size w w') ∧ Aside0 (Kd.R (Kd.int .u8) 5 w' base (fun _ => True) (.slice Af b.free.length cf) b.free) ∧ Aside0 (Kd.R iR 85 w' base (fun _ => True) (.slice Aa b.attrs.length ca) b.attrs) ∧ Aside0 (Kd.R (Kd.int .i64) 3 w' base (fun _ => True) (.slice As b.slots.length cs) b.slots) ∧ Aside0 (Kd.R (Kd.int .i64) 3 w' base (fun _ => True) (.slice Ap b.free.length cp) b.free) ∧ Aside0 (Kd.R hH 76 w' base (fun _ => True) (.slice Am M.length cm) M) ∧ Aside0 (aH w' gX (aX b.addr b.aff b.slots (.slice Af b.free.length cf) (.slice Aa b.attrs.length ca)) 57) ∧ Aside0 (aH w' gY (dt b.addr b.aff (.slice As b.slots.length cs) (.slice Ap b.free.length cp) (.slice Am M.length cm)) 62) ∧ Aside0 (aH w' gT [.int .i64 kd, .int .i64 n, .string a.f0, .string a.f1, .slice Al l.length cl, .string aff] 79) ∧ Aside0 (aH w' gZ a7 57) ∧ Aside0 (aH w' gU dM 62) ∧ Aside0 (aH w' s.1 a7 57) ∧ Aside0 (w.heap.size ≤ s.1) ∧ Aside0 (gX ≠ s.1) ∧ Aside0 (gZ ≠ s.1) ∧ Aside0 (ee w' base s.2.1 nb) ∧ Aside0 (Kd.R (Kd.int .u32) 46 w' base (fun _ => True) s.2.2 oo)) ?_ ?_
 rotate_left
 ·intro dZ
  refine tw 5 11 ab.out (fun K hK => ?_) (fun K hK => ?_)
  ·skip
   refine gs Try.func50 #[.agg #[.string a.f0, .string a.f1]] (jh a _) ?_
   rintro e V5 ⟨rfl, I⟩
   refine ⟨_, rfl, ?_⟩
   (try replace hV := mv I hV); (try replace cB := mv I cB); (try replace hQ := mv I hQ); replace hB := mv I hB; replace hF := mv I hF; replace hG := mv I hG; replace hS := mv I hS; replace hP := mv I hP; replace hM := mv I hM; replace hX := mv I hX; replace hY := mv I hY; replace hT := mv I hT; replace hZ := mv I hZ; replace hU := mv I hU; clear  I
   refine kn hK ⟨hX.out, hT.out⟩ (fun hHeld => ?_)
   clear hK K
   refine tw 6 11 ab.out (fun K hK => ?_) (fun K hK => ?_)
   ·skip
    refine gs Try.func49 #[.agg (aX b.addr b.aff b.slots (.slice Af b.free.length cf) (.slice Aa b.attrs.length ca)).toArray, .int .i64 n, et (cv a)] (HBL.out _ _ ⟨_, _, _, _, rfl, ⟨HL.out, (rr hF).1, (rr hF).2, (rr hG).1, (rr hG).2⟩⟩) ?_
    rintro e V6 ⟨v_, jT, rfl, aU, eC, I⟩
    refine ⟨_, rfl, ?_⟩
    have hV := ak (aU.lower (lb HBASE hB)); have cB := ak (Kd.R_lower eC (lb HBASE hB)); (try replace hQ := mv I hQ); replace hB := mv I hB; replace hF := mv I hF; replace hG := mv I hG; replace hS := mv I hS; replace hP := mv I hP; replace hM := mv I hM; replace hX := mv I hX; replace hY := mv I hY; replace hT := mv I hT; replace hZ := mv I hZ; replace hU := mv I hU; clear aU eC I
    refine kn hK ⟨hX.out, hT.out⟩ (fun hHeld => ?_)
    clear hK K
    refine pu 7 ab.out ?_
    refine pu 8 ab.out ?_
    refine pu 9 ab.out ?_
    refine pu 10 ab.out ?_
    refine on 11 ab.out (fun K hK => ?_)
    refine dz (by rfl) 57 rfl a7 bJ ?_
    intro gQ ov J aa I
    have cz := ge hB J
    have bk := ne hX J
    have a8 := ne hZ J
    (try replace hV := mv I hV)
    (try replace cB := mv I cB)
    replace hB := mv I hB
    replace hF := mv I hF
    replace hG := mv I hG
    replace hS := mv I hS
    replace hP := mv I hP
    replace hM := mv I hM
    replace hX := mv I hX
    replace hY := mv I hY
    replace hT := mv I hT
    replace hZ := mv I hZ
    replace hU := mv I hU
    have hQ := ak aa
    clear J aa I
    refine kn hK ⟨hX.out, hT.out⟩ (fun hHeld => ?_)
    clear hK K
    exact nc (dZ ⟨gQ, v_, jT⟩ _ ⟨hB, hF, hG, hS, hP, hM, hX, hY, hT, hZ, hU, hQ, cz, bk, a8, hV, cB⟩)
   ·skip
    refine dz (by rfl) 57 rfl a7 bJ ?_
    intro gQ ov J aa I
    have cz := ge hB J
    have bk := ne hX J
    have a8 := ne hZ J
    (try replace hV := mv I hV)
    (try replace cB := mv I cB)
    replace hB := mv I hB
    replace hF := mv I hF
    replace hG := mv I hG
    replace hS := mv I hS
    replace hP := mv I hP
    replace hM := mv I hM
    replace hX := mv I hX
    replace hY := mv I hY
    replace hT := mv I hT
    replace hZ := mv I hZ
    replace hU := mv I hU
    have hQ := ak aa
    clear J aa I
    refine kn hK ⟨hX.out, hT.out⟩ (fun hHeld => ?_)
    clear hK K
    refine on 6 ab.out (fun K hK => ?_)
    refine gs Try.func49 #[.agg (aX b.addr b.aff b.slots (.slice Af b.free.length cf) (.slice Aa b.attrs.length ca)).toArray, .int .i64 n, et (cv a)] (HBL.out _ _ ⟨_, _, _, _, rfl, ⟨HL.out, (rr hF).1, (rr hF).2, (rr hG).1, (rr hG).2⟩⟩) ?_
    rintro e V6 ⟨v_, jT, rfl, aU, eC, I⟩
    refine ⟨_, rfl, ?_⟩
    have hV := ak (aU.lower (lb HBASE hB)); have cB := ak (Kd.R_lower eC (lb HBASE hB)); (try replace hQ := mv I hQ); replace hB := mv I hB; replace hF := mv I hF; replace hG := mv I hG; replace hS := mv I hS; replace hP := mv I hP; replace hM := mv I hM; replace hX := mv I hX; replace hY := mv I hY; replace hT := mv I hT; replace hZ := mv I hZ; replace hU := mv I hU; clear aU eC I
    refine kn hK ⟨hX.out, hT.out⟩ (fun hHeld => ?_)
    clear hK K
    refine pu 7 ab.out ?_
    refine pu 8 ab.out ?_
    refine pu 9 ab.out ?_
    refine pu 10 ab.out ?_
    exact nc (dZ ⟨gQ, v_, jT⟩ _ ⟨hB, hF, hG, hS, hP, hM, hX, hY, hT, hZ, hU, hQ, cz, bk, a8, hV, cB⟩)
  ·skip
   refine dz (by rfl) 57 rfl a7 bJ ?_
   intro gQ ov J aa I
   have cz := ge hB J
   have bk := ne hX J
   have a8 := ne hZ J
   (try replace hV := mv I hV)
   (try replace cB := mv I cB)
   replace hB := mv I hB
   replace hF := mv I hF
   replace hG := mv I hG
   replace hS := mv I hS
   replace hP := mv I hP
   replace hM := mv I hM
   replace hX := mv I hX
   replace hY := mv I hY
   replace hT := mv I hT
   replace hZ := mv I hZ
   replace hU := mv I hU
   have hQ := ak aa
   clear J aa I
   refine kn hK ⟨hX.out, hT.out⟩ (fun hHeld => ?_)
   clear hK K
   refine on 5 ab.out (fun K hK => ?_)
   refine gs Try.func50 #[.agg #[.string a.f0, .string a.f1]] (jh a _) ?_
   rintro e V5 ⟨rfl, I⟩
   refine ⟨_, rfl, ?_⟩
   (try replace hV := mv I hV); (try replace cB := mv I cB); (try replace hQ := mv I hQ); replace hB := mv I hB; replace hF := mv I hF; replace hG := mv I hG; replace hS := mv I hS; replace hP := mv I hP; replace hM := mv I hM; replace hX := mv I hX; replace hY := mv I hY; replace hT := mv I hT; replace hZ := mv I hZ; replace hU := mv I hU; clear  I
   refine kn hK ⟨hX.out, hT.out⟩ (fun hHeld => ?_)
   clear hK K
   refine on 6 ab.out (fun K hK => ?_)
   refine gs Try.func49 #[.agg (aX b.addr b.aff b.slots (.slice Af b.free.length cf) (.slice Aa b.attrs.length ca)).toArray, .int .i64 n, et (cv a)] (HBL.out _ _ ⟨_, _, _, _, rfl, ⟨HL.out, (rr hF).1, (rr hF).2, (rr hG).1, (rr hG).2⟩⟩) ?_
   rintro e V6 ⟨v_, jT, rfl, aU, eC, I⟩
   refine ⟨_, rfl, ?_⟩
   have hV := ak (aU.lower (lb HBASE hB)); have cB := ak (Kd.R_lower eC (lb HBASE hB)); (try replace hQ := mv I hQ); replace hB := mv I hB; replace hF := mv I hF; replace hG := mv I hG; replace hS := mv I hS; replace hP := mv I hP; replace hM := mv I hM; replace hX := mv I hX; replace hY := mv I hY; replace hT := mv I hT; replace hZ := mv I hZ; replace hU := mv I hU; clear aU eC I
   refine kn hK ⟨hX.out, hT.out⟩ (fun hHeld => ?_)
   clear hK K
   refine pu 7 ab.out ?_
   refine pu 8 ab.out ?_
   refine pu 9 ab.out ?_
   refine pu 10 ab.out ?_
   exact nc (dZ ⟨gQ, v_, jT⟩ _ ⟨hB, hF, hG, hS, hP, hM, hX, hY, hT, hZ, hU, hQ, cz, bk, a8, hV, cB⟩)
 intro s w' hFF; obtain ⟨gQ, v_, jT⟩ := s; simp only at hFF; obtain ⟨hB, hF, hG, hS, hP, hM, hX, hY, hT, hZ, hU, hQ, cz, bk, a8, hV, cB⟩ := hFF; have aU := hV.out; obtain ⟨gR, nE, nF, rfl, cV, dA⟩ := aU; obtain ⟨A8, c8, rfl⟩ := Kd.R_slice cV; obtain ⟨A9, c9, rfl⟩ := Kd.R_slice dA; obtain ⟨Ao, co, rfl⟩ := Kd.R_slice cB.out; have hC := ak cV; have hD := ak dA; have hO := cB; clear hV cB gR cV dA
 refine nj ?_
 refine ow 12 ab.out (fun K hK => ?_)
 refine bz (by rfl) rfl 57 (.tmp 10) (.tmp 53) rfl gQ (aX nb.addr nb.aff nb.slots (.slice A8 nb.free.length c8) (.slice A9 nb.attrs.length c9)) rfl rfl 57 _ hQ.out 68 (by kernel_rfl) (ag _ _ _ _ _ HNL.out) rfl (bZ _ _ _ _ _ rfl rfl) ?_
 intro Nv aa J; replace hB := gb hB cz J; replace hF := gr hF hQ J; replace hG := gr hG hQ J; replace hS := gr hS hQ J; replace hP := gr hP hQ J; replace hM := gr hM hQ J; replace hX := gn hX bk J; replace hY := gx hY hQ J; replace hT := gx hT hQ J; replace hZ := gn hZ a8 J; replace hU := gx hU hQ J; replace hC := gr hC hQ J; replace hD := gr hD hQ J; replace hO := gr hO hQ J; replace hQ := ak (aa); clear aa J
 refine hK.out _ _ ⟨hX.out, hT.out⟩ (fun hHeld => ?_)
 clear hK K
 refine pu 13 ab.out ?_
 refine pu 14 ab.out ?_
 refine dn ab.out ?_
 clear hHeld
 have gS := hT.out.cell 1 _ rfl
 go_wp2_with (first
  | ((with_reducible refine av (N := 57) rfl ?_); refine fi rfl 76 (.tmp 56) rfl gT 2 rfl 79 _ [.string a.f0, .string a.f1] _ hT.out uD Try.underlying76 rfl (by kernel_rfl) ?_)
  | (go_at_call 60; refine (HMY.out _).mono ?_; rintro e qJ ⟨rfl, I⟩; have iL := mv I hB; have ju := mv I hF; have js := mv I hG; have ie := mv I hS; have ig := mv I hP; have ij := mv I hM; have jn := mv I hX; have ic := mv I hY; have m6 := mv I hT; have jm := mv I hZ; have jo := mv I hU; have jq := mv I hQ; have jy := mv I hC; have jw := mv I hD; have rP := mv I hO; have tv := m6.out.cell 1 _ rfl; clear I hB hF hG hS hP hM hX hY hT hZ hU hQ hC hD hO gS))
 clear tv
 have ai : Below qJ.heap.size qJ qJ.drew := bp (Below.refl _ _)
 have iY := mv ai iL; have jt := mv ai ju; have jr := mv ai js; have iI := mv ai ie; have iJ := mv ai ig; have iK := mv ai ij; have iU := mv ai jn; have iy := mv ai ic; have pQ := mv ai m6; have iT := mv ai jm; have iW := mv ai jo; have iX := mv ai jq; have jx := mv ai jy; have jv := mv ai jw; have rO := mv ai rP
 clear ai iL ju js ie ig ij jn ic m6 jm jo jq jy jw rP
 have hB := iY
 have hF := jt
 have hG := jr
 have hS := iI
 have hP := iJ
 have hM := iK
 have hX := iU
 have hY := iy
 have hT := pQ
 have hZ := iT
 have hU := iW
 have hQ := iX
 have hC := jx
 have hD := jv
 have hO := rO
 clear iY jt jr iI iJ iK iU iy pQ iT iW iX jx jv rO
 refine da (n := 16) (S := fun w' => aH w' gX (aX b.addr b.aff b.slots (.slice Af b.free.length cf) (.slice Aa b.attrs.length ca)) 57 ∧ aH w' gY (dt b.addr b.aff (.slice As b.slots.length cs) (.slice Ap b.free.length cp) (.slice Am M.length cm)) 62 ∧ aH w' gQ (aX nb.addr nb.aff nb.slots (.slice A8 nb.free.length c8) (.slice A9 nb.attrs.length c9)) 57) (ds := []) #[false, false, false, false, false, false, false, false, false, false, false, false, false, false, false, false] (by kernel_rfl) rfl rfl ⟨hX.out, hY.out, hQ.out⟩ (fun hHeld => ?_); refine bK sv.tab9 sv.bits9 (fun ab bq => ?_)
 refine tk 0 ab.out bq.out hHeld ?_ (hv := by exact fun _ aY => aJ 57 (.tmp 3) rfl gX rfl _ _ _ aY.1 Try.underlying57 rfl HLB.out)
 refine tk 1 ab.out bq.out hHeld ?_ (hv := by exact fun _ aY => aJ 62 (.tmp 4) rfl gY rfl _ _ _ aY.2.1 Try.underlying62 rfl (by kernel_rfl))
 refine pu 2 ab.out ?_
 refine pu 3 ab.out ?_
 refine pu 4 ab.out ?_
 refine tk 5 ab.out bq.out hHeld ?_ (hv := by exact fun _ aY => aJ 57 (.tmp 10) rfl gQ rfl _ _ _ aY.2.2 Try.underlying57 rfl (HLN _ _ _ _))
 refine on 6 ab.out (fun K hK => ?_)
 refine gs Try.func43 #[.agg (aX nb.addr nb.aff nb.slots (.slice A8 nb.free.length c8) (.slice A9 nb.attrs.length c9)).toArray] (HZR.out _ _ ⟨_, _, _, _, rfl, ⟨HNL.out, (rr hC).1, (rr hC).2, (rr hD).1, (rr hD).2⟩⟩) ?_
 rintro e V6 ⟨rfl, I⟩
 refine ⟨_, rfl, ?_⟩
 replace hB := mv I hB; replace hF := mv I hF; replace hG := mv I hG; replace hS := mv I hS; replace hP := mv I hP; replace hM := mv I hM; replace hX := mv I hX; replace hY := mv I hY; replace hT := mv I hT; replace hZ := mv I hZ; replace hU := mv I hU; replace hQ := mv I hQ; replace hC := mv I hC; replace hD := mv I hD; replace hO := mv I hO
 refine kn hK ⟨hX.out, hY.out, hQ.out⟩ (fun hHeld => ?_)
 clear hK K
 refine pu 7 ab.out ?_
 refine pu 8 ab.out ?_
 refine pu 9 ab.out ?_
 refine pu 10 ab.out ?_
 refine pu 11 ab.out ?_
 refine pu 12 ab.out ?_
 refine ow 13 ab.out (fun K hK => ?_)
 refine bz (by rfl) rfl 57 (.tmp 6) (.tmp 65) rfl gZ (aX b.addr b.aff b.slots (.slice Af b.free.length cf) (.slice Aa b.attrs.length ca)) rfl rfl 57 _ hZ.out 68 (by kernel_rfl) (ag _ _ _ _ _ HL.out) rfl (bZ _ _ _ _ _ rfl rfl) ?_
 intro TO aa J; replace hB := gb hB bO J; replace hF := gr hF hZ J; replace hG := gr hG hZ J; replace hS := gr hS hZ J; replace hP := gr hP hZ J; replace hM := gr hM hZ J; replace hX := gn hX aG J; replace hY := gx hY hZ J; replace hT := gx hT hZ J; replace hU := gx hU hZ J; replace hQ := gm hQ a8 J; replace hC := gr hC hZ J; replace hD := gr hD hZ J; replace hO := gr hO hZ J; replace hZ := ak (aa); clear aa J
 refine hK.out _ _ ⟨hX.out, hY.out, hQ.out⟩ (fun hHeld => ?_)
 clear hK K
 refine ow 14 ab.out (fun K hK => ?_)
 refine bz (by rfl) rfl 62 (.tmp 7) (.tmp 66) rfl gU (dt b.addr b.aff (.slice As b.slots.length cs) (.slice Ap b.free.length cp) (.slice Am M.length cm)) rfl rfl 62 _ hU.out 5 (by kernel_rfl) rfl rfl (dO _ _ rfl rfl rfl) ?_
 intro TN aa J; replace hB := gb hB fx J; replace hF := gr hF hU J; replace hG := gr hG hU J; replace hS := gr hS hU J; replace hP := gr hP hU J; replace hM := gr hM hU J; replace hX := gx hX hU J; replace hY := gn hY dE J; replace hT := gx hT hU J; replace hZ := gx hZ hU J; replace hQ := gx hQ hU J; replace hC := gr hC hU J; replace hD := gr hD hU J; replace hO := gr hO hU J; replace hU := ak (aa); clear aa J
 refine hK.out _ _ ⟨hX.out, hY.out, hQ.out⟩ (fun hHeld => ?_)
 clear hK K
 refine pu 15 ab.out ?_
 refine dn ab.out ?_
 clear hHeld
 go_wp2_with fail
 refine bodyPost_ret (eT rfl _ _ _ gZ gU 57 62 _ _ _ _ rfl hZ.out rfl Try.underlying57 (by first | exact HLB.out | exact HLN _ _ _ _) rfl hU.out rfl Try.underlying62 (by kernel_rfl)) rfl ⟨_, _, b, rfl, ?_, ?_, ?_, hB.out⟩
 ·exact HG.out
 ·exact ⟨HL.out, _, _, rfl, hF.out, hG.out⟩
 ·exact ⟨_, _, _, rfl, hS.out, hP.out, by rw [← HM.out]; exact hM.out⟩
set_option maxHeartbeats 16000000 in
set_option maxRecDepth 100000 in
theorem LU (b : Bk) (hg : RG b) (kd : Int) (hkd : kd = 0 ∨ kd = 1) (n : Int) (hn : n < 9223372036854775808) (a : kD) (e9 : a.f0.size ≤ 9223372036854775807) (fB : a.f1.size ≤ 9223372036854775807) (l : List Int) (hu : ∀ x ∈ l, 0 ≤ x ∧ x < 4294967296) (hlm : l.length ≤ 9223372036854775807) (Al : Option Addr) (cl : Nat) (hcl : l.length ≤ cl) (aff : ByteArray) (hza : aff.size ≤ 9223372036854775807) (hma : eP (cv a) = true) (lK : n < 0) (v v2 : Value) (w : World) (base : Nat) (hbase : base ≤ w.heap.size) (hO : ee w base v b) (hR : eM w base v2 b) (hC : Kd.C (Kd.int .u32) w Al l.length l) :
  Calls Try.prog 47 #[v, v2, .agg #[.int .i64 kd, .int .i64 n, .string a.f0, .string a.f1, .slice Al l.length cl, .string aff]] w fun e w' => ∃ v1 v2 b', e = .returned (.tuple #[v1, v2, .bool true]) ∧ RG b' ∧ ee w' base v1 b' ∧ eM w' base v2 b' ∧ Below w.heap.size w w' := by
 obtain ⟨hl, vf, va, rfl, hf, ha⟩ := hO
 obtain ⟨vs, vp, vm, rfl, hs, hp, hm⟩ := hR
 obtain ⟨Af, cf, rfl⟩ := Kd.R_slice hf
 obtain ⟨Aa, ca, rfl⟩ := Kd.R_slice ha
 obtain ⟨As, cs, rfl⟩ := Kd.R_slice hs
 obtain ⟨Ap, cp, rfl⟩ := Kd.R_slice hp
 obtain ⟨M, hM⟩ : ∃ M, M = b.attrs.map vc := ⟨_, rfl⟩
 rw [← hM] at hm
 obtain ⟨Am, cm, rfl⟩ := Kd.R_slice hm
 have HL := ak hl
 have HM := ak hM
 have bl := ak hf
 have dg := ak ha
 have aZ := ak hs
 have ed := ak hp
 have bL := ak hm
 have HG := ak hg
 have ae := ak (Below.refl w.heap.size w)
 have HBASE := ak hbase
 have HLB := ak (b9 (aX b.addr b.aff b.slots (.slice Af b.free.length cf) (.slice Aa b.attrs.length ca)) (ag _ _ _ _ _ HL.out))
 obtain ⟨lt, hlt⟩ : ∃ lt, lt = l.take 80 := ⟨_, rfl⟩
 have hut : ∀ x ∈ lt, 0 ≤ x ∧ x < 4294967296 := fun x hx => hu x (by rw [hlt] at hx; exact List.mem_of_mem_take hx)
 have hll : lt.length = min 80 l.length := by rw [hlt, List.length_take]
 have HCL := ak hcl
 have HLL := ak hll
 have HC := ak hC
 have HCT := ak (fun W (I : Below w.heap.size w W) => (show Kd.C (Kd.int .u32) W Al lt.length lt by
  rcases Nat.lt_or_ge 80 l.length with h | h
  ·have h_ := Kd.C_take (m := 80) (Kd.C_below hC I) (by omega)
   rw [← hlt] at h_
   exact h_
  ·have h_ := Kd.C_below hC I
   have e : lt = l := by rw [hlt, List.take_of_length_le h]
   rw [e]
   exact h_))
 have hbl := fun v w h => nL b hg.ok n hn (cv a) v w h
 have hok : kF b n (cv a) = false := by unfold kF; rw [hma, decide_eq_false (by omega)]; simp
 rw [hok] at hbl
 simp only [Bool.false_eq_true, if_false, if_true] at hbl
 have HMY := ak (fun w => pc a e9 fB w)
 rw [hma] at HMY
 have n0 : decide (n < 0) = true := by simp; omega
 obtain ⟨nb, hnb⟩ : ∃ nb, nb = jS := ⟨_, rfl⟩
 have hnl : jS.slots.length = 64 := rfl
 rw [← hnb] at hbl hnl
 have HNB := ak hnb
 have HNL := ak hnl
 have HLN := fun A8 c8 A9 c9 => b9 (aX nb.addr nb.aff nb.slots (.slice A8 nb.free.length c8) (.slice A9 nb.attrs.length c9)) (ag _ _ _ _ _ HNL.out)
 have HZR := ak (fun v w h => oy v w (by rw [← HNB.out]; exact h))
 obtain ⟨oo, hoo⟩ : ∃ oo : List Int, oo = [] := ⟨_, rfl⟩
 rw [← hoo] at hbl
 have o0 : decide ((oo.length : Int) = 0) = true := by rw [hoo]; rfl
 have o1 : ((oo.length : Int) == 0) = true := by rw [hoo]; rfl
 have o2 : ((oo.length : Int) = 0) = True := by rw [hoo]; simp
 have o3 : (oo.length = 0) = True := by rw [hoo]; simp
 have o4 : (oo = []) = True := eq_true hoo
 have HBL := ak hbl
 clear hbl hnb hnl hma hok hoo lK
 have HKD := ak hkd
 clear hkd
 clear hl hM hf ha hs hp hm hbase hC hu hut hll hcl hlt hg
 go_enter Try.func47, Try.ntmps47
 go_upto_if 37 with (first
  | (refine aE rfl 57 (.tmp 0) rfl _ rfl ?_; intro gX W1 J aa I; have bS := ge ae J; have aj := ak (ae.out.trans (I.mono ae.out.size)); have bg := mv I bl; have cH := mv I dg; have bd := mv I aZ; have dc := mv I ed; have bG := mv I bL; have ah := ak (aa); clear J aa I ae bl dg aZ ed bL)
  | (refine aE rfl 62 (.tmp 1) rfl _ rfl ?_; intro gY W2 J aa I; have iZ := ge aj J; have fD := ne ah J; have aw := mv I aj; have bM := mv I bg; have dh := mv I cH; have bF := mv I bd; have dp := mv I dc; have cw := mv I bG; have au := mv I ah; have cr := ak (aa); clear J aa I aj bg cH bd dc bG ah)
  | (refine aE rfl 79 (.tmp 2) rfl _ rfl ?_; intro gT W3 J aa I; have ki := ge aw J; have gW := ne au J; have ix := ne cr J; have aD := mv I aw; have cg := mv I bM; have dL := mv I dh; have b6 := mv I bF; have ec := mv I dp; have dq := mv I cw; have aA := mv I au; have cE := mv I cr; have dQ := ak (aa); clear J aa I aw bM dh bF dp cw au cr)
  | (refine ax (some 6) rfl rfl 57 rfl a7 bJ ?_; intro gZ W4 J aa I; have bO := ge aD J; have aG := ne aA J; have fP := ne cE J; have jG := ne dQ J; have aW := mv I aD; have cd := mv I cg; have dB := mv I dL; have cP := mv I b6; have ey := mv I ec; have dw := mv I dq; have aV := mv I aA; have b5 := mv I cE; have dT := mv I dQ; have bb := ak (aa); clear J aa I aD cg dL b6 ec dq aA cE dQ)
  | (refine ax (some 7) rfl rfl 62 rfl dM (fun _ => by kernel_rfl) ?_; intro gU W5 J aa I; have fx := ge aW J; have gF := ne aV J; have dE := ne b5 J; have jH := ne dT J; have gE := ne bb J; have bf := mv I aW; have b8 := mv I cd; have cW := mv I dB; have cY := mv I cP; have er := mv I ey; have cQ := mv I dw; have a9 := mv I aV; have du := mv I b5; have bw := mv I dT; have bu := mv I bb; have ev := ak (aa); have jE := bw.out.cell 0 _ rfl; have gS := bw.out.cell 1 _ rfl; have jD := bw.out.cell 2 _ rfl; have jC := bw.out.cell 3 _ rfl; have jB := bw.out.cell 4 _ rfl; have gB := bw.out.cell 5 _ rfl; clear J aa I aW cd dB cP ey dw aV b5 dT bb))
 go_cut [9] from 38 to 39 (fun s9 wx => s9 = .slice Al lt.length cl ∧ W5 = wx)
 case first =>
  rcases Nat.lt_or_ge 80 l.length with ll | ll
  ·have lh : decide ((80 : Int) < (l.length : Int)) = true := by simp; omega
   have tZ : (((0 : Int) ≤ 80 ∧ (80 : Int) ≤ (cl : Int)) = True) := eq_true ⟨by omega, by have := HCL.out; omega⟩
   have tY : (((80 : Int) ≤ (cl : Int)) = True) := eq_true (by have := HCL.out; omega)
   go_wp2_with fail
   go_meet
   exact ⟨by rw [HLL.out, Nat.min_eq_left (by omega)], rfl⟩
  ·have lh : decide ((80 : Int) < (l.length : Int)) = false := by simp; omega
   go_wp2_with fail
   go_meet
   exact ⟨by rw [HLL.out, Nat.min_eq_right (by omega)], rfl⟩
 case rest =>
 obtain ⟨gf, fZ⟩ := hcut
 subst gf
 subst fZ
 go_upto_if 42 with fail
 go_cut [42] from 43 to 44 (fun tl wx => tl = .bool true ∧ W5 = wx)
 case first =>
  rcases HKD.out with bV | bV
  ·skip
   have zo : (kd = 0) = True := eq_true (by omega)
   have Fe : decide (kd = 0) = true := by simp; omega
   have E6 : (kd == 0) = true := by simp; omega
   clear bV
   go_wp2_with fail
   go_meet
   exact ⟨by first | rfl | simp [zo], rfl⟩
  ·skip
   have zo : (kd = 0) = False := eq_false (by omega)
   have Fe : decide (kd = 0) = false := by simp; omega
   have E6 : (kd == 0) = false := by simp; omega
   have Fg : (kd = 1) = True := eq_true (by omega)
   have Ps : decide (kd = 1) = true := by simp; omega
   have Pp : (kd == 1) = true := by simp; omega
   clear bV
   go_wp2_with fail
   go_meet
   exact ⟨by first | rfl | simp [Fg], rfl⟩
 case rest =>
 obtain ⟨gf, fZ⟩ := hcut
 subst gf
 subst fZ
 go_wp2_with fail
 have ai : Below W5.heap.size W5 W5.drew := bp (Below.refl _ _)
 have bD := mv ai bf; have cI := mv ai b8; have dx := mv ai cW; have dm := mv ai cY; have ew := mv ai er; have dU := mv ai cQ; have bj := mv ai a9; have cN := mv ai du; have fq := mv ai bw; have bT := mv ai bu; have dX := mv ai ev
 clear ai bf b8 cW cY er cQ a9 du bw bu ev jE gS jD jC jB gB
 have hB := bD
 have hF := cI
 have hG := dx
 have hS := dm
 have hP := ew
 have hM := dU
 have hX := bj
 have hY := cN
 have hT := fq
 have hZ := bT
 have hU := dX
 clear bD cI dx dm ew dU bj cN fq bT dX
 refine da (n := 15) (S := fun w' => aH w' gX (aX b.addr b.aff b.slots (.slice Af b.free.length cf) (.slice Aa b.attrs.length ca)) 57 ∧ aH w' gT [.int .i64 kd, .int .i64 n, .string a.f0, .string a.f1, .slice Al l.length cl, .string aff] 79) (ds := []) #[false, false, false, false, false, false, false, false, false, false, false, false, false, false, false] (by kernel_rfl) rfl rfl ⟨hX.out, hT.out⟩ (fun hHeld => ?_); refine bK pw.tab7 pw.bits7 (fun ab bq => ?_)
 refine tk 0 ab.out bq.out hHeld ?_ (hv := by exact fun _ aY => aJ 57 (.tmp 3) rfl gX rfl _ _ _ aY.1 Try.underlying57 rfl HLB.out)
 refine pu 1 ab.out ?_
 refine tk 2 ab.out bq.out hHeld ?_ (hv := by intro w' aY; have Ds := aY.2.cell 1 _ rfl; go_simp; with_reducible rfl)
 refine pu 3 ab.out ?_
 refine tk 4 ab.out bq.out hHeld ?_ (hv := by exact fun _ aY => nG 76 (.tmp 49) rfl gT 2 rfl _ _ [.string a.f0, .string a.f1] _ aY.2 uD Try.underlying76 rfl (by kernel_rfl))
 refine oS (σ := Nat × Value × Value) 3 #[true, true, true, true, true, true, true, true, true, true, true, true, false, false, false] (fun s => [(51, et (cv a)), (52, .tuple #[s.2.1, s.2.2, .int .i64 1]), (45, .tuple #[s.2.1, s.2.2, .int .i64 1]), (53, s.2.1), (54, s.2.2), (55, .int .i64 1), (10, .pointer (some ⟨s.1, 0, none⟩))]) (fun s w' => Aside0 (Below w.heap.size w w') ∧ Aside0 (Kd.R (Kd.int .u8) 5 w' base (fun _ => True) (.slice Af b.free.length cf) b.free) ∧ Aside0 (Kd.R iR 85 w' base (fun _ => True) (.slice Aa b.attrs.length ca) b.attrs) ∧ Aside0 (Kd.R (Kd.int .i64) 3 w' base (fun _ => True) (.slice As b.slots.length cs) b.slots) ∧ Aside0 (Kd.R (Kd.int .i64) 3 w' base (fun _ => True) (.slice Ap b.free.length cp) b.free) ∧ Aside0 (Kd.R hH 76 w' base (fun _ => True) (.slice Am M.length cm) M) ∧ Aside0 (aH w' gX (aX b.addr b.aff b.slots (.slice Af b.free.length cf) (.slice Aa b.attrs.length ca)) 57) ∧ Aside0 (aH w' gY (dt b.addr b.aff (.slice As b.slots.length cs) (.slice Ap b.free.length cp) (.slice Am M.length cm)) 62) ∧ Aside0 (aH w' gT [.int .i64 kd, .int .i64 n, .string a.f0, .string a.f1, .slice Al l.length cl, .string aff] 79) ∧ Aside0 (aH w' gZ a7 57) ∧ Aside0 (aH w' gU dM 62) ∧ Aside0 (aH w' s.1 a7 57) ∧ Aside0 (w.heap.size ≤ s.1) ∧ Aside0 (gX ≠ s.1) ∧ Aside0 (gZ ≠ s.1) ∧ Aside0 (ee w' base s.2.1 nb) ∧ Aside0 (Kd.R (Kd.int .u32) 46 w' base (fun _ => True) s.2.2 oo)) ?_ ?_
 rotate_left
 ·intro dZ
  refine tw 5 11 ab.out (fun K hK => ?_) (fun K hK => ?_)
  ·skip
   refine gs Try.func50 #[.agg #[.string a.f0, .string a.f1]] (jh a _) ?_
   rintro e V5 ⟨rfl, I⟩
   refine ⟨_, rfl, ?_⟩
   (try replace hV := mv I hV); (try replace cB := mv I cB); (try replace hQ := mv I hQ); replace hB := mv I hB; replace hF := mv I hF; replace hG := mv I hG; replace hS := mv I hS; replace hP := mv I hP; replace hM := mv I hM; replace hX := mv I hX; replace hY := mv I hY; replace hT := mv I hT; replace hZ := mv I hZ; replace hU := mv I hU; clear  I
   refine kn hK ⟨hX.out, hT.out⟩ (fun hHeld => ?_)
   clear hK K
   refine tw 6 11 ab.out (fun K hK => ?_) (fun K hK => ?_)
   ·skip
    refine gs Try.func49 #[.agg (aX b.addr b.aff b.slots (.slice Af b.free.length cf) (.slice Aa b.attrs.length ca)).toArray, .int .i64 n, et (cv a)] (HBL.out _ _ ⟨_, _, _, _, rfl, ⟨HL.out, (rr hF).1, (rr hF).2, (rr hG).1, (rr hG).2⟩⟩) ?_
    rintro e V6 ⟨v_, jT, rfl, aU, eC, I⟩
    refine ⟨_, rfl, ?_⟩
    have hV := ak (aU.lower (lb HBASE hB)); have cB := ak (Kd.R_lower eC (lb HBASE hB)); (try replace hQ := mv I hQ); replace hB := mv I hB; replace hF := mv I hF; replace hG := mv I hG; replace hS := mv I hS; replace hP := mv I hP; replace hM := mv I hM; replace hX := mv I hX; replace hY := mv I hY; replace hT := mv I hT; replace hZ := mv I hZ; replace hU := mv I hU; clear aU eC I
    refine kn hK ⟨hX.out, hT.out⟩ (fun hHeld => ?_)
    clear hK K
    refine pu 7 ab.out ?_
    refine pu 8 ab.out ?_
    refine pu 9 ab.out ?_
    refine pu 10 ab.out ?_
    refine on 11 ab.out (fun K hK => ?_)
    refine dz (by rfl) 57 rfl a7 bJ ?_
    intro gQ ov J aa I
    have cz := ge hB J
    have bk := ne hX J
    have a8 := ne hZ J
    (try replace hV := mv I hV)
    (try replace cB := mv I cB)
    replace hB := mv I hB
    replace hF := mv I hF
    replace hG := mv I hG
    replace hS := mv I hS
    replace hP := mv I hP
    replace hM := mv I hM
    replace hX := mv I hX
    replace hY := mv I hY
    replace hT := mv I hT
    replace hZ := mv I hZ
    replace hU := mv I hU
    have hQ := ak aa
    clear J aa I
    refine kn hK ⟨hX.out, hT.out⟩ (fun hHeld => ?_)
    clear hK K
    exact nc (dZ ⟨gQ, v_, jT⟩ _ ⟨hB, hF, hG, hS, hP, hM, hX, hY, hT, hZ, hU, hQ, cz, bk, a8, hV, cB⟩)
   ·skip
    refine dz (by rfl) 57 rfl a7 bJ ?_
    intro gQ ov J aa I
    have cz := ge hB J
    have bk := ne hX J
    have a8 := ne hZ J
    (try replace hV := mv I hV)
    (try replace cB := mv I cB)
    replace hB := mv I hB
    replace hF := mv I hF
    replace hG := mv I hG
    replace hS := mv I hS
    replace hP := mv I hP
    replace hM := mv I hM
    replace hX := mv I hX
    replace hY := mv I hY
    replace hT := mv I hT
    replace hZ := mv I hZ
    replace hU := mv I hU
    have hQ := ak aa
    clear J aa I
    refine kn hK ⟨hX.out, hT.out⟩ (fun hHeld => ?_)
    clear hK K
    refine on 6 ab.out (fun K hK => ?_)
    refine gs Try.func49 #[.agg (aX b.addr b.aff b.slots (.slice Af b.free.length cf) (.slice Aa b.attrs.length ca)).toArray, .int .i64 n, et (cv a)] (HBL.out _ _ ⟨_, _, _, _, rfl, ⟨HL.out, (rr hF).1, (rr hF).2, (rr hG).1, (rr hG).2⟩⟩) ?_
    rintro e V6 ⟨v_, jT, rfl, aU, eC, I⟩
    refine ⟨_, rfl, ?_⟩
    have hV := ak (aU.lower (lb HBASE hB)); have cB := ak (Kd.R_lower eC (lb HBASE hB)); (try replace hQ := mv I hQ); replace hB := mv I hB; replace hF := mv I hF; replace hG := mv I hG; replace hS := mv I hS; replace hP := mv I hP; replace hM := mv I hM; replace hX := mv I hX; replace hY := mv I hY; replace hT := mv I hT; replace hZ := mv I hZ; replace hU := mv I hU; clear aU eC I
    refine kn hK ⟨hX.out, hT.out⟩ (fun hHeld => ?_)
    clear hK K
    refine pu 7 ab.out ?_
    refine pu 8 ab.out ?_
    refine pu 9 ab.out ?_
    refine pu 10 ab.out ?_
    exact nc (dZ ⟨gQ, v_, jT⟩ _ ⟨hB, hF, hG, hS, hP, hM, hX, hY, hT, hZ, hU, hQ, cz, bk, a8, hV, cB⟩)
  ·skip
   refine dz (by rfl) 57 rfl a7 bJ ?_
   intro gQ ov J aa I
   have cz := ge hB J
   have bk := ne hX J
   have a8 := ne hZ J
   (try replace hV := mv I hV)
   (try replace cB := mv I cB)
   replace hB := mv I hB
   replace hF := mv I hF
   replace hG := mv I hG
   replace hS := mv I hS
   replace hP := mv I hP
   replace hM := mv I hM
   replace hX := mv I hX
   replace hY := mv I hY
   replace hT := mv I hT
   replace hZ := mv I hZ
   replace hU := mv I hU
   have hQ := ak aa
   clear J aa I
   refine kn hK ⟨hX.out, hT.out⟩ (fun hHeld => ?_)
   clear hK K
   refine on 5 ab.out (fun K hK => ?_)
   refine gs Try.func50 #[.agg #[.string a.f0, .string a.f1]] (jh a _) ?_
   rintro e V5 ⟨rfl, I⟩
   refine ⟨_, rfl, ?_⟩
   (try replace hV := mv I hV); (try replace cB := mv I cB); (try replace hQ := mv I hQ); replace hB := mv I hB; replace hF := mv I hF; replace hG := mv I hG; replace hS := mv I hS; replace hP := mv I hP; replace hM := mv I hM; replace hX := mv I hX; replace hY := mv I hY; replace hT := mv I hT; replace hZ := mv I hZ; replace hU := mv I hU; clear  I
   refine kn hK ⟨hX.out, hT.out⟩ (fun hHeld => ?_)
   clear hK K
   refine on 6 ab.out (fun K hK => ?_)
   refine gs Try.func49 #[.agg (aX b.addr b.aff b.slots (.slice Af b.free.length cf) (.slice Aa b.attrs.length ca)).toArray, .int .i64 n, et (cv a)] (HBL.out _ _ ⟨_, _, _, _, rfl, ⟨HL.out, (rr hF).1, (rr hF).2, (rr hG).1, (rr hG).2⟩⟩) ?_
   rintro e V6 ⟨v_, jT, rfl, aU, eC, I⟩
   refine ⟨_, rfl, ?_⟩
   have hV := ak (aU.lower (lb HBASE hB)); have cB := ak (Kd.R_lower eC (lb HBASE hB)); (try replace hQ := mv I hQ); replace hB := mv I hB; replace hF := mv I hF; replace hG := mv I hG; replace hS := mv I hS; replace hP := mv I hP; replace hM := mv I hM; replace hX := mv I hX; replace hY := mv I hY; replace hT := mv I hT; replace hZ := mv I hZ; replace hU := mv I hU; clear aU eC I
   refine kn hK ⟨hX.out, hT.out⟩ (fun hHeld => ?_)
   clear hK K
   refine pu 7 ab.out ?_
   refine pu 8 ab.out ?_
   refine pu 9 ab.out ?_
   refine pu 10 ab.out ?_
   exact nc (dZ ⟨gQ, v_, jT⟩ _ ⟨hB, hF, hG, hS, hP, hM, hX, hY, hT, hZ, hU, hQ, cz, bk, a8, hV, cB⟩)
 intro s w' hFF; obtain ⟨gQ, v_, jT⟩ := s; simp only at hFF; obtain ⟨hB, hF, hG, hS, hP, hM, hX, hY, hT, hZ, hU, hQ, cz, bk, a8, hV, cB⟩ := hFF; have aU := hV.out; obtain ⟨gR, nE, nF, rfl, cV, dA⟩ := aU; obtain ⟨A8, c8, rfl⟩ := Kd.R_slice cV; obtain ⟨A9, c9, rfl⟩ := Kd.R_slice dA; obtain ⟨Ao, co, rfl⟩ := Kd.R_slice cB.out; have hC := ak cV; have hD := ak dA; have hO := cB; clear hV cB gR cV dA
 refine nj ?_
 refine ow 12 ab.out (fun K hK => ?_)
 refine bz (by rfl) rfl 57 (.tmp 10) (.tmp 53) rfl gQ (aX nb.addr nb.aff nb.slots (.slice A8 nb.free.length c8) (.slice A9 nb.attrs.length c9)) rfl rfl 57 _ hQ.out 68 (by kernel_rfl) (ag _ _ _ _ _ HNL.out) rfl (bZ _ _ _ _ _ rfl rfl) ?_
 intro Nv aa J; replace hB := gb hB cz J; replace hF := gr hF hQ J; replace hG := gr hG hQ J; replace hS := gr hS hQ J; replace hP := gr hP hQ J; replace hM := gr hM hQ J; replace hX := gn hX bk J; replace hY := gx hY hQ J; replace hT := gx hT hQ J; replace hZ := gn hZ a8 J; replace hU := gx hU hQ J; replace hC := gr hC hQ J; replace hD := gr hD hQ J; replace hO := gr hO hQ J; replace hQ := ak (aa); clear aa J
 refine hK.out _ _ ⟨hX.out, hT.out⟩ (fun hHeld => ?_)
 clear hK K
 refine pu 13 ab.out ?_
 refine pu 14 ab.out ?_
 refine dn ab.out ?_
 clear hHeld
 have gS := hT.out.cell 1 _ rfl
 go_wp2_with (first
  | ((with_reducible refine av (N := 57) rfl ?_); refine fi rfl 76 (.tmp 56) rfl gT 2 rfl 79 _ [.string a.f0, .string a.f1] _ hT.out uD Try.underlying76 rfl (by kernel_rfl) ?_)
  | (go_at_call 60; refine (HMY.out _).mono ?_; rintro e qJ ⟨rfl, I⟩; have iL := mv I hB; have ju := mv I hF; have js := mv I hG; have ie := mv I hS; have ig := mv I hP; have ij := mv I hM; have jn := mv I hX; have ic := mv I hY; have m6 := mv I hT; have jm := mv I hZ; have jo := mv I hU; have jq := mv I hQ; have jy := mv I hC; have jw := mv I hD; have rP := mv I hO; have tv := m6.out.cell 1 _ rfl; clear I hB hF hG hS hP hM hX hY hT hZ hU hQ hC hD hO gS))
 clear tv
 have ai : Below qJ.heap.size qJ qJ.drew := bp (Below.refl _ _)
 have iY := mv ai iL; have jt := mv ai ju; have jr := mv ai js; have iI := mv ai ie; have iJ := mv ai ig; have iK := mv ai ij; have iU := mv ai jn; have iy := mv ai ic; have pQ := mv ai m6; have iT := mv ai jm; have iW := mv ai jo; have iX := mv ai jq; have jx := mv ai jy; have jv := mv ai jw; have rO := mv ai rP
 clear ai iL ju js ie ig ij jn ic m6 jm jo jq jy jw rP
 have hB := iY
 have hF := jt
 have hG := jr
 have hS := iI
 have hP := iJ
 have hM := iK
 have hX := iU
 have hY := iy
 have hT := pQ
 have hZ := iT
 have hU := iW
 have hQ := iX
 have hC := jx
 have hD := jv
 have hO := rO
 clear iY jt jr iI iJ iK iU iy pQ iT iW iX jx jv rO
 refine da (n := 16) (S := fun w' => aH w' gX (aX b.addr b.aff b.slots (.slice Af b.free.length cf) (.slice Aa b.attrs.length ca)) 57 ∧ aH w' gY (dt b.addr b.aff (.slice As b.slots.length cs) (.slice Ap b.free.length cp) (.slice Am M.length cm)) 62 ∧ aH w' gQ (aX nb.addr nb.aff nb.slots (.slice A8 nb.free.length c8) (.slice A9 nb.attrs.length c9)) 57) (ds := []) #[false, false, false, false, false, false, false, false, false, false, false, false, false, false, false, false] (by kernel_rfl) rfl rfl ⟨hX.out, hY.out, hQ.out⟩ (fun hHeld => ?_); refine bK sv.tab9 sv.bits9 (fun ab bq => ?_)
 refine tk 0 ab.out bq.out hHeld ?_ (hv := by exact fun _ aY => aJ 57 (.tmp 3) rfl gX rfl _ _ _ aY.1 Try.underlying57 rfl HLB.out)
 refine tk 1 ab.out bq.out hHeld ?_ (hv := by exact fun _ aY => aJ 62 (.tmp 4) rfl gY rfl _ _ _ aY.2.1 Try.underlying62 rfl (by kernel_rfl))
 refine pu 2 ab.out ?_
 refine pu 3 ab.out ?_
 refine pu 4 ab.out ?_
 refine tk 5 ab.out bq.out hHeld ?_ (hv := by exact fun _ aY => aJ 57 (.tmp 10) rfl gQ rfl _ _ _ aY.2.2 Try.underlying57 rfl (HLN _ _ _ _))
 refine on 6 ab.out (fun K hK => ?_)
 refine gs Try.func43 #[.agg (aX nb.addr nb.aff nb.slots (.slice A8 nb.free.length c8) (.slice A9 nb.attrs.length c9)).toArray] (HZR.out _ _ ⟨_, _, _, _, rfl, ⟨HNL.out, (rr hC).1, (rr hC).2, (rr hD).1, (rr hD).2⟩⟩) ?_
 rintro e V6 ⟨rfl, I⟩
 refine ⟨_, rfl, ?_⟩
 replace hB := mv I hB; replace hF := mv I hF; replace hG := mv I hG; replace hS := mv I hS; replace hP := mv I hP; replace hM := mv I hM; replace hX := mv I hX; replace hY := mv I hY; replace hT := mv I hT; replace hZ := mv I hZ; replace hU := mv I hU; replace hQ := mv I hQ; replace hC := mv I hC; replace hD := mv I hD; replace hO := mv I hO
 refine kn hK ⟨hX.out, hY.out, hQ.out⟩ (fun hHeld => ?_)
 clear hK K
 refine pu 7 ab.out ?_
 refine pu 8 ab.out ?_
 refine pu 9 ab.out ?_
 refine pu 10 ab.out ?_
 refine pu 11 ab.out ?_
 refine pu 12 ab.out ?_
 refine ow 13 ab.out (fun K hK => ?_)
 refine bz (by rfl) rfl 57 (.tmp 6) (.tmp 65) rfl gZ (aX b.addr b.aff b.slots (.slice Af b.free.length cf) (.slice Aa b.attrs.length ca)) rfl rfl 57 _ hZ.out 68 (by kernel_rfl) (ag _ _ _ _ _ HL.out) rfl (bZ _ _ _ _ _ rfl rfl) ?_
 intro TO aa J; replace hB := gb hB bO J; replace hF := gr hF hZ J; replace hG := gr hG hZ J; replace hS := gr hS hZ J; replace hP := gr hP hZ J; replace hM := gr hM hZ J; replace hX := gn hX aG J; replace hY := gx hY hZ J; replace hT := gx hT hZ J; replace hU := gx hU hZ J; replace hQ := gm hQ a8 J; replace hC := gr hC hZ J; replace hD := gr hD hZ J; replace hO := gr hO hZ J; replace hZ := ak (aa); clear aa J
 refine hK.out _ _ ⟨hX.out, hY.out, hQ.out⟩ (fun hHeld => ?_)
 clear hK K
 refine ow 14 ab.out (fun K hK => ?_)
 refine bz (by rfl) rfl 62 (.tmp 7) (.tmp 66) rfl gU (dt b.addr b.aff (.slice As b.slots.length cs) (.slice Ap b.free.length cp) (.slice Am M.length cm)) rfl rfl 62 _ hU.out 5 (by kernel_rfl) rfl rfl (dO _ _ rfl rfl rfl) ?_
 intro TN aa J; replace hB := gb hB fx J; replace hF := gr hF hU J; replace hG := gr hG hU J; replace hS := gr hS hU J; replace hP := gr hP hU J; replace hM := gr hM hU J; replace hX := gx hX hU J; replace hY := gn hY dE J; replace hT := gx hT hU J; replace hZ := gx hZ hU J; replace hQ := gx hQ hU J; replace hC := gr hC hU J; replace hD := gr hD hU J; replace hO := gr hO hU J; replace hU := ak (aa); clear aa J
 refine hK.out _ _ ⟨hX.out, hY.out, hQ.out⟩ (fun hHeld => ?_)
 clear hK K
 refine pu 15 ab.out ?_
 refine dn ab.out ?_
 clear hHeld
 go_wp2_with fail
 refine bodyPost_ret (eT rfl _ _ _ gZ gU 57 62 _ _ _ _ rfl hZ.out rfl Try.underlying57 (by first | exact HLB.out | exact HLN _ _ _ _) rfl hU.out rfl Try.underlying62 (by kernel_rfl)) rfl ⟨_, _, b, rfl, ?_, ?_, ?_, hB.out⟩
 ·exact HG.out
 ·exact ⟨HL.out, _, _, rfl, hF.out, hG.out⟩
 ·exact ⟨_, _, _, rfl, hS.out, hP.out, by rw [← HM.out]; exact hM.out⟩
set_option maxHeartbeats 16000000 in
set_option maxRecDepth 100000 in
theorem Nk (b : Bk) (hg : RG b) (kd : Int) (hkd : kd = 0 ∨ kd = 1) (n : Int) (hn : n < 9223372036854775808) (a : kD) (e9 : a.f0.size ≤ 9223372036854775807) (fB : a.f1.size ≤ 9223372036854775807) (l : List Int) (hu : ∀ x ∈ l, 0 ≤ x ∧ x < 4294967296) (hlm : l.length ≤ 9223372036854775807) (Al : Option Addr) (cl : Nat) (hcl : l.length ≤ cl) (aff : ByteArray) (hza : aff.size ≤ 9223372036854775807) (hma : eP (cv a) = true) (lK : 0 ≤ n) (v v2 : Value) (w : World) (base : Nat) (hbase : base ≤ w.heap.size) (hO : ee w base v b) (hR : eM w base v2 b) (hC : Kd.C (Kd.int .u32) w Al l.length l) :
  Calls Try.prog 47 #[v, v2, .agg #[.int .i64 kd, .int .i64 n, .string a.f0, .string a.f1, .slice Al l.length cl, .string aff]] w fun e w' => ∃ v1 v2 b', e = .returned (.tuple #[v1, v2, .bool true]) ∧ RG b' ∧ ee w' base v1 b' ∧ eM w' base v2 b' ∧ Below w.heap.size w w' := by
 obtain ⟨hl, vf, va, rfl, hf, ha⟩ := hO
 obtain ⟨vs, vp, vm, rfl, hs, hp, hm⟩ := hR
 obtain ⟨Af, cf, rfl⟩ := Kd.R_slice hf
 obtain ⟨Aa, ca, rfl⟩ := Kd.R_slice ha
 obtain ⟨As, cs, rfl⟩ := Kd.R_slice hs
 obtain ⟨Ap, cp, rfl⟩ := Kd.R_slice hp
 obtain ⟨M, hM⟩ : ∃ M, M = b.attrs.map vc := ⟨_, rfl⟩
 rw [← hM] at hm
 obtain ⟨Am, cm, rfl⟩ := Kd.R_slice hm
 have HL := ak hl
 have HM := ak hM
 have bl := ak hf
 have dg := ak ha
 have aZ := ak hs
 have ed := ak hp
 have bL := ak hm
 have HG := ak hg
 have ae := ak (Below.refl w.heap.size w)
 have HBASE := ak hbase
 have HLB := ak (b9 (aX b.addr b.aff b.slots (.slice Af b.free.length cf) (.slice Aa b.attrs.length ca)) (ag _ _ _ _ _ HL.out))
 obtain ⟨lt, hlt⟩ : ∃ lt, lt = l.take 80 := ⟨_, rfl⟩
 have hut : ∀ x ∈ lt, 0 ≤ x ∧ x < 4294967296 := fun x hx => hu x (by rw [hlt] at hx; exact List.mem_of_mem_take hx)
 have hll : lt.length = min 80 l.length := by rw [hlt, List.length_take]
 have HCL := ak hcl
 have HLL := ak hll
 have HC := ak hC
 have HCT := ak (fun W (I : Below w.heap.size w W) => (show Kd.C (Kd.int .u32) W Al lt.length lt by
  rcases Nat.lt_or_ge 80 l.length with h | h
  ·have h_ := Kd.C_take (m := 80) (Kd.C_below hC I) (by omega)
   rw [← hlt] at h_
   exact h_
  ·have h_ := Kd.C_below hC I
   have e : lt = l := by rw [hlt, List.take_of_length_le h]
   rw [e]
   exact h_))
 have hbl := fun v w h => nL b hg.ok n hn (cv a) v w h
 have hok : kF b n (cv a) = true := by unfold kF; rw [hma, hg.right, decide_eq_true lK]; rfl
 rw [hok] at hbl
 simp only [if_true] at hbl
 have HMY := ak (fun w => pc a e9 fB w)
 rw [hma] at HMY
 have n0 : decide (n < 0) = false := by simp; omega
 have hp := iA hg.right
 have hrl := fun v w h0 h => CY b hg.ok hp hl n hn lK (min n.toNat b.free.length) rfl (cv a) v w base h0 h
 have hrg := hg.asg (cv a) hma (min n.toNat b.free.length) (Nat.min_le_right _ _)
 obtain ⟨nb, hnb⟩ : ∃ nb, nb = di b (min n.toNat b.free.length) (cv a) := ⟨_, rfl⟩
 obtain ⟨oo, hoo⟩ : ∃ oo, oo = dK b (min n.toNat b.free.length) := ⟨_, rfl⟩
 rw [← hnb, ← hoo] at hbl hrl
 rw [← hnb] at hrg
 have hol : oo.length ≤ 1000 := by rw [hoo]; rw [gq _ _ (Nat.min_le_right _ _)]; have := hg.sum; omega
 have HRG := ak hrg
 have HNL := ak hrg.l64
 have HOL := ak hol
 have HLN := fun A8 c8 A9 c9 => b9 (aX nb.addr nb.aff nb.slots (.slice A8 nb.free.length c8) (.slice A9 nb.attrs.length c9)) (ag _ _ _ _ _ HNL.out)
 have HBL := ak hbl
 have HRL := ak hrl
 clear hrg hbl hrl hol hnb hoo hp hma hok lK
 have HKD := ak hkd
 clear hkd
 clear hl hM hf ha hs hp hm hbase hC hu hut hll hcl hlt hg
 go_enter Try.func47, Try.ntmps47
 go_upto_if 37 with (first
  | (refine aE rfl 57 (.tmp 0) rfl _ rfl ?_; intro gX W1 J aa I; have bS := ge ae J; have aj := ak (ae.out.trans (I.mono ae.out.size)); have bg := mv I bl; have cH := mv I dg; have bd := mv I aZ; have dc := mv I ed; have bG := mv I bL; have ah := ak (aa); clear J aa I ae bl dg aZ ed bL)
  | (refine aE rfl 62 (.tmp 1) rfl _ rfl ?_; intro gY W2 J aa I; have iZ := ge aj J; have fD := ne ah J; have aw := mv I aj; have bM := mv I bg; have dh := mv I cH; have bF := mv I bd; have dp := mv I dc; have cw := mv I bG; have au := mv I ah; have cr := ak (aa); clear J aa I aj bg cH bd dc bG ah)
  | (refine aE rfl 79 (.tmp 2) rfl _ rfl ?_; intro gT W3 J aa I; have ki := ge aw J; have gW := ne au J; have ix := ne cr J; have aD := mv I aw; have cg := mv I bM; have dL := mv I dh; have b6 := mv I bF; have ec := mv I dp; have dq := mv I cw; have aA := mv I au; have cE := mv I cr; have dQ := ak (aa); clear J aa I aw bM dh bF dp cw au cr)
  | (refine ax (some 6) rfl rfl 57 rfl a7 bJ ?_; intro gZ W4 J aa I; have bO := ge aD J; have aG := ne aA J; have fP := ne cE J; have jG := ne dQ J; have aW := mv I aD; have cd := mv I cg; have dB := mv I dL; have cP := mv I b6; have ey := mv I ec; have dw := mv I dq; have aV := mv I aA; have b5 := mv I cE; have dT := mv I dQ; have bb := ak (aa); clear J aa I aD cg dL b6 ec dq aA cE dQ)
  | (refine ax (some 7) rfl rfl 62 rfl dM (fun _ => by kernel_rfl) ?_; intro gU W5 J aa I; have fx := ge aW J; have gF := ne aV J; have dE := ne b5 J; have jH := ne dT J; have gE := ne bb J; have bf := mv I aW; have b8 := mv I cd; have cW := mv I dB; have cY := mv I cP; have er := mv I ey; have cQ := mv I dw; have a9 := mv I aV; have du := mv I b5; have bw := mv I dT; have bu := mv I bb; have ev := ak (aa); have jE := bw.out.cell 0 _ rfl; have gS := bw.out.cell 1 _ rfl; have jD := bw.out.cell 2 _ rfl; have jC := bw.out.cell 3 _ rfl; have jB := bw.out.cell 4 _ rfl; have gB := bw.out.cell 5 _ rfl; clear J aa I aW cd dB cP ey dw aV b5 dT bb))
 go_cut [9] from 38 to 39 (fun s9 wx => s9 = .slice Al lt.length cl ∧ W5 = wx)
 case first =>
  rcases Nat.lt_or_ge 80 l.length with ll | ll
  ·have lh : decide ((80 : Int) < (l.length : Int)) = true := by simp; omega
   have tZ : (((0 : Int) ≤ 80 ∧ (80 : Int) ≤ (cl : Int)) = True) := eq_true ⟨by omega, by have := HCL.out; omega⟩
   have tY : (((80 : Int) ≤ (cl : Int)) = True) := eq_true (by have := HCL.out; omega)
   go_wp2_with fail
   go_meet
   exact ⟨by rw [HLL.out, Nat.min_eq_left (by omega)], rfl⟩
  ·have lh : decide ((80 : Int) < (l.length : Int)) = false := by simp; omega
   go_wp2_with fail
   go_meet
   exact ⟨by rw [HLL.out, Nat.min_eq_right (by omega)], rfl⟩
 case rest =>
 obtain ⟨gf, fZ⟩ := hcut
 subst gf
 subst fZ
 go_upto_if 42 with fail
 go_cut [42] from 43 to 44 (fun tl wx => tl = .bool true ∧ W5 = wx)
 case first =>
  rcases HKD.out with bV | bV
  ·skip
   have zo : (kd = 0) = True := eq_true (by omega)
   have Fe : decide (kd = 0) = true := by simp; omega
   have E6 : (kd == 0) = true := by simp; omega
   clear bV
   go_wp2_with fail
   go_meet
   exact ⟨by first | rfl | simp [zo], rfl⟩
  ·skip
   have zo : (kd = 0) = False := eq_false (by omega)
   have Fe : decide (kd = 0) = false := by simp; omega
   have E6 : (kd == 0) = false := by simp; omega
   have Fg : (kd = 1) = True := eq_true (by omega)
   have Ps : decide (kd = 1) = true := by simp; omega
   have Pp : (kd == 1) = true := by simp; omega
   clear bV
   go_wp2_with fail
   go_meet
   exact ⟨by first | rfl | simp [Fg], rfl⟩
 case rest =>
 obtain ⟨gf, fZ⟩ := hcut
 subst gf
 subst fZ
 go_wp2_with fail
 have ai : Below W5.heap.size W5 W5.drew := bp (Below.refl _ _)
 have bD := mv ai bf; have cI := mv ai b8; have dx := mv ai cW; have dm := mv ai cY; have ew := mv ai er; have dU := mv ai cQ; have bj := mv ai a9; have cN := mv ai du; have fq := mv ai bw; have bT := mv ai bu; have dX := mv ai ev
 clear ai bf b8 cW cY er cQ a9 du bw bu ev jE gS jD jC jB gB
 have hB := bD
 have hF := cI
 have hG := dx
 have hS := dm
 have hP := ew
 have hM := dU
 have hX := bj
 have hY := cN
 have hT := fq
 have hZ := bT
 have hU := dX
 clear bD cI dx dm ew dU bj cN fq bT dX
 refine da (n := 15) (S := fun w' => aH w' gX (aX b.addr b.aff b.slots (.slice Af b.free.length cf) (.slice Aa b.attrs.length ca)) 57 ∧ aH w' gT [.int .i64 kd, .int .i64 n, .string a.f0, .string a.f1, .slice Al l.length cl, .string aff] 79) (ds := []) #[false, false, false, false, false, false, false, false, false, false, false, false, false, false, false] (by kernel_rfl) rfl rfl ⟨hX.out, hT.out⟩ (fun hHeld => ?_); refine bK pw.tab7 pw.bits7 (fun ab bq => ?_)
 refine tk 0 ab.out bq.out hHeld ?_ (hv := by exact fun _ aY => aJ 57 (.tmp 3) rfl gX rfl _ _ _ aY.1 Try.underlying57 rfl HLB.out)
 refine pu 1 ab.out ?_
 refine tk 2 ab.out bq.out hHeld ?_ (hv := by intro w' aY; have Ds := aY.2.cell 1 _ rfl; go_simp; with_reducible rfl)
 refine pu 3 ab.out ?_
 refine tk 4 ab.out bq.out hHeld ?_ (hv := by exact fun _ aY => nG 76 (.tmp 49) rfl gT 2 rfl _ _ [.string a.f0, .string a.f1] _ aY.2 uD Try.underlying76 rfl (by kernel_rfl))
 refine oS (σ := Nat × Value × Value) 3 #[true, true, true, true, true, true, true, true, true, true, true, true, false, false, false] (fun s => [(51, et (cv a)), (52, .tuple #[s.2.1, s.2.2, .int .i64 0]), (45, .tuple #[s.2.1, s.2.2, .int .i64 0]), (53, s.2.1), (54, s.2.2), (55, .int .i64 0), (10, .pointer (some ⟨s.1, 0, none⟩))]) (fun s w' => Aside0 (Below w.heap.size w w') ∧ Aside0 (Kd.R (Kd.int .u8) 5 w' base (fun _ => True) (.slice Af b.free.length cf) b.free) ∧ Aside0 (Kd.R iR 85 w' base (fun _ => True) (.slice Aa b.attrs.length ca) b.attrs) ∧ Aside0 (Kd.R (Kd.int .i64) 3 w' base (fun _ => True) (.slice As b.slots.length cs) b.slots) ∧ Aside0 (Kd.R (Kd.int .i64) 3 w' base (fun _ => True) (.slice Ap b.free.length cp) b.free) ∧ Aside0 (Kd.R hH 76 w' base (fun _ => True) (.slice Am M.length cm) M) ∧ Aside0 (aH w' gX (aX b.addr b.aff b.slots (.slice Af b.free.length cf) (.slice Aa b.attrs.length ca)) 57) ∧ Aside0 (aH w' gY (dt b.addr b.aff (.slice As b.slots.length cs) (.slice Ap b.free.length cp) (.slice Am M.length cm)) 62) ∧ Aside0 (aH w' gT [.int .i64 kd, .int .i64 n, .string a.f0, .string a.f1, .slice Al l.length cl, .string aff] 79) ∧ Aside0 (aH w' gZ a7 57) ∧ Aside0 (aH w' gU dM 62) ∧ Aside0 (aH w' s.1 a7 57) ∧ Aside0 (w.heap.size ≤ s.1) ∧ Aside0 (gX ≠ s.1) ∧ Aside0 (gZ ≠ s.1) ∧ Aside0 (ee w' base s.2.1 nb) ∧ Aside0 (Kd.R (Kd.int .u32) 46 w' base (fun _ => True) s.2.2 oo)) ?_ ?_
 rotate_left
 ·intro dZ
  refine tw 5 11 ab.out (fun K hK => ?_) (fun K hK => ?_)
  ·skip
   refine gs Try.func50 #[.agg #[.string a.f0, .string a.f1]] (jh a _) ?_
   rintro e V5 ⟨rfl, I⟩
   refine ⟨_, rfl, ?_⟩
   (try replace hV := mv I hV); (try replace cB := mv I cB); (try replace hQ := mv I hQ); replace hB := mv I hB; replace hF := mv I hF; replace hG := mv I hG; replace hS := mv I hS; replace hP := mv I hP; replace hM := mv I hM; replace hX := mv I hX; replace hY := mv I hY; replace hT := mv I hT; replace hZ := mv I hZ; replace hU := mv I hU; clear  I
   refine kn hK ⟨hX.out, hT.out⟩ (fun hHeld => ?_)
   clear hK K
   refine tw 6 11 ab.out (fun K hK => ?_) (fun K hK => ?_)
   ·skip
    refine gs Try.func49 #[.agg (aX b.addr b.aff b.slots (.slice Af b.free.length cf) (.slice Aa b.attrs.length ca)).toArray, .int .i64 n, et (cv a)] (HBL.out _ _ ⟨_, _, _, _, rfl, ⟨HL.out, (rr hF).1, (rr hF).2, (rr hG).1, (rr hG).2⟩⟩) ?_
    rintro e V6 ⟨v_, jT, rfl, aU, eC, I⟩
    refine ⟨_, rfl, ?_⟩
    have hV := ak (aU.lower (lb HBASE hB)); have cB := ak (Kd.R_lower eC (lb HBASE hB)); (try replace hQ := mv I hQ); replace hB := mv I hB; replace hF := mv I hF; replace hG := mv I hG; replace hS := mv I hS; replace hP := mv I hP; replace hM := mv I hM; replace hX := mv I hX; replace hY := mv I hY; replace hT := mv I hT; replace hZ := mv I hZ; replace hU := mv I hU; clear aU eC I
    refine kn hK ⟨hX.out, hT.out⟩ (fun hHeld => ?_)
    clear hK K
    refine pu 7 ab.out ?_
    refine pu 8 ab.out ?_
    refine pu 9 ab.out ?_
    refine pu 10 ab.out ?_
    refine on 11 ab.out (fun K hK => ?_)
    refine dz (by rfl) 57 rfl a7 bJ ?_
    intro gQ ov J aa I
    have cz := ge hB J
    have bk := ne hX J
    have a8 := ne hZ J
    (try replace hV := mv I hV)
    (try replace cB := mv I cB)
    replace hB := mv I hB
    replace hF := mv I hF
    replace hG := mv I hG
    replace hS := mv I hS
    replace hP := mv I hP
    replace hM := mv I hM
    replace hX := mv I hX
    replace hY := mv I hY
    replace hT := mv I hT
    replace hZ := mv I hZ
    replace hU := mv I hU
    have hQ := ak aa
    clear J aa I
    refine kn hK ⟨hX.out, hT.out⟩ (fun hHeld => ?_)
    clear hK K
    exact nc (dZ ⟨gQ, v_, jT⟩ _ ⟨hB, hF, hG, hS, hP, hM, hX, hY, hT, hZ, hU, hQ, cz, bk, a8, hV, cB⟩)
   ·skip
    refine dz (by rfl) 57 rfl a7 bJ ?_
    intro gQ ov J aa I
    have cz := ge hB J
    have bk := ne hX J
    have a8 := ne hZ J
    (try replace hV := mv I hV)
    (try replace cB := mv I cB)
    replace hB := mv I hB
    replace hF := mv I hF
    replace hG := mv I hG
    replace hS := mv I hS
    replace hP := mv I hP
    replace hM := mv I hM
    replace hX := mv I hX
    replace hY := mv I hY
    replace hT := mv I hT
    replace hZ := mv I hZ
    replace hU := mv I hU
    have hQ := ak aa
    clear J aa I
    refine kn hK ⟨hX.out, hT.out⟩ (fun hHeld => ?_)
    clear hK K
    refine on 6 ab.out (fun K hK => ?_)
    refine gs Try.func49 #[.agg (aX b.addr b.aff b.slots (.slice Af b.free.length cf) (.slice Aa b.attrs.length ca)).toArray, .int .i64 n, et (cv a)] (HBL.out _ _ ⟨_, _, _, _, rfl, ⟨HL.out, (rr hF).1, (rr hF).2, (rr hG).1, (rr hG).2⟩⟩) ?_
    rintro e V6 ⟨v_, jT, rfl, aU, eC, I⟩
    refine ⟨_, rfl, ?_⟩
    have hV := ak (aU.lower (lb HBASE hB)); have cB := ak (Kd.R_lower eC (lb HBASE hB)); (try replace hQ := mv I hQ); replace hB := mv I hB; replace hF := mv I hF; replace hG := mv I hG; replace hS := mv I hS; replace hP := mv I hP; replace hM := mv I hM; replace hX := mv I hX; replace hY := mv I hY; replace hT := mv I hT; replace hZ := mv I hZ; replace hU := mv I hU; clear aU eC I
    refine kn hK ⟨hX.out, hT.out⟩ (fun hHeld => ?_)
    clear hK K
    refine pu 7 ab.out ?_
    refine pu 8 ab.out ?_
    refine pu 9 ab.out ?_
    refine pu 10 ab.out ?_
    exact nc (dZ ⟨gQ, v_, jT⟩ _ ⟨hB, hF, hG, hS, hP, hM, hX, hY, hT, hZ, hU, hQ, cz, bk, a8, hV, cB⟩)
  ·skip
   refine dz (by rfl) 57 rfl a7 bJ ?_
   intro gQ ov J aa I
   have cz := ge hB J
   have bk := ne hX J
   have a8 := ne hZ J
   (try replace hV := mv I hV)
   (try replace cB := mv I cB)
   replace hB := mv I hB
   replace hF := mv I hF
   replace hG := mv I hG
   replace hS := mv I hS
   replace hP := mv I hP
   replace hM := mv I hM
   replace hX := mv I hX
   replace hY := mv I hY
   replace hT := mv I hT
   replace hZ := mv I hZ
   replace hU := mv I hU
   have hQ := ak aa
   clear J aa I
   refine kn hK ⟨hX.out, hT.out⟩ (fun hHeld => ?_)
   clear hK K
   refine on 5 ab.out (fun K hK => ?_)
   refine gs Try.func50 #[.agg #[.string a.f0, .string a.f1]] (jh a _) ?_
   rintro e V5 ⟨rfl, I⟩
   refine ⟨_, rfl, ?_⟩
   (try replace hV := mv I hV); (try replace cB := mv I cB); (try replace hQ := mv I hQ); replace hB := mv I hB; replace hF := mv I hF; replace hG := mv I hG; replace hS := mv I hS; replace hP := mv I hP; replace hM := mv I hM; replace hX := mv I hX; replace hY := mv I hY; replace hT := mv I hT; replace hZ := mv I hZ; replace hU := mv I hU; clear  I
   refine kn hK ⟨hX.out, hT.out⟩ (fun hHeld => ?_)
   clear hK K
   refine on 6 ab.out (fun K hK => ?_)
   refine gs Try.func49 #[.agg (aX b.addr b.aff b.slots (.slice Af b.free.length cf) (.slice Aa b.attrs.length ca)).toArray, .int .i64 n, et (cv a)] (HBL.out _ _ ⟨_, _, _, _, rfl, ⟨HL.out, (rr hF).1, (rr hF).2, (rr hG).1, (rr hG).2⟩⟩) ?_
   rintro e V6 ⟨v_, jT, rfl, aU, eC, I⟩
   refine ⟨_, rfl, ?_⟩
   have hV := ak (aU.lower (lb HBASE hB)); have cB := ak (Kd.R_lower eC (lb HBASE hB)); (try replace hQ := mv I hQ); replace hB := mv I hB; replace hF := mv I hF; replace hG := mv I hG; replace hS := mv I hS; replace hP := mv I hP; replace hM := mv I hM; replace hX := mv I hX; replace hY := mv I hY; replace hT := mv I hT; replace hZ := mv I hZ; replace hU := mv I hU; clear aU eC I
   refine kn hK ⟨hX.out, hT.out⟩ (fun hHeld => ?_)
   clear hK K
   refine pu 7 ab.out ?_
   refine pu 8 ab.out ?_
   refine pu 9 ab.out ?_
   refine pu 10 ab.out ?_
   exact nc (dZ ⟨gQ, v_, jT⟩ _ ⟨hB, hF, hG, hS, hP, hM, hX, hY, hT, hZ, hU, hQ, cz, bk, a8, hV, cB⟩)
 intro s w' hFF; obtain ⟨gQ, v_, jT⟩ := s; simp only at hFF; obtain ⟨hB, hF, hG, hS, hP, hM, hX, hY, hT, hZ, hU, hQ, cz, bk, a8, hV, cB⟩ := hFF; have aU := hV.out; obtain ⟨gR, nE, nF, rfl, cV, dA⟩ := aU; obtain ⟨A8, c8, rfl⟩ := Kd.R_slice cV; obtain ⟨A9, c9, rfl⟩ := Kd.R_slice dA; obtain ⟨Ao, co, rfl⟩ := Kd.R_slice cB.out; have hC := ak cV; have hD := ak dA; have hO := cB; clear hV cB gR cV dA
 refine nj ?_
 refine ow 12 ab.out (fun K hK => ?_)
 refine bz (by rfl) rfl 57 (.tmp 10) (.tmp 53) rfl gQ (aX nb.addr nb.aff nb.slots (.slice A8 nb.free.length c8) (.slice A9 nb.attrs.length c9)) rfl rfl 57 _ hQ.out 68 (by kernel_rfl) (ag _ _ _ _ _ HNL.out) rfl (bZ _ _ _ _ _ rfl rfl) ?_
 intro Nv aa J; replace hB := gb hB cz J; replace hF := gr hF hQ J; replace hG := gr hG hQ J; replace hS := gr hS hQ J; replace hP := gr hP hQ J; replace hM := gr hM hQ J; replace hX := gn hX bk J; replace hY := gx hY hQ J; replace hT := gx hT hQ J; replace hZ := gn hZ a8 J; replace hU := gx hU hQ J; replace hC := gr hC hQ J; replace hD := gr hD hQ J; replace hO := gr hO hQ J; replace hQ := ak (aa); clear aa J
 refine hK.out _ _ ⟨hX.out, hT.out⟩ (fun hHeld => ?_)
 clear hK K
 refine pu 13 ab.out ?_
 refine pu 14 ab.out ?_
 refine dn ab.out ?_
 clear hHeld
 have gS := hT.out.cell 1 _ rfl
 go_wp2_with (first
  | ((with_reducible refine av (N := 57) rfl ?_); refine fi rfl 76 (.tmp 56) rfl gT 2 rfl 79 _ [.string a.f0, .string a.f1] _ hT.out uD Try.underlying76 rfl (by kernel_rfl) ?_)
  | (go_at_call 60; refine (HMY.out _).mono ?_; rintro e qJ ⟨rfl, I⟩; have iL := mv I hB; have ju := mv I hF; have js := mv I hG; have ie := mv I hS; have ig := mv I hP; have ij := mv I hM; have jn := mv I hX; have ic := mv I hY; have m6 := mv I hT; have jm := mv I hZ; have jo := mv I hU; have jq := mv I hQ; have jy := mv I hC; have jw := mv I hD; have rP := mv I hO; have tv := m6.out.cell 1 _ rfl; clear I hB hF hG hS hP hM hX hY hT hZ hU hQ hC hD hO gS)
  | ((with_reducible refine av (N := 83) rfl ?_); refine fi rfl 76 (.tmp 82) rfl gT 2 rfl 79 _ [.string a.f0, .string a.f1] _ m6.out uD Try.underlying76 rfl (by kernel_rfl) ?_)
  | ((with_reducible refine av (N := 79) rfl ?_); refine ay rfl 62 (.tmp 4) rfl gY rfl _ _ _ ic.out Try.underlying62 rfl 5 (by kernel_rfl) rfl ?_)
  | (go_at_call 82; refine (HRL.out _ _ (lb HBASE iL) ⟨_, _, _, rfl, ie.out, ig.out, by rw [← HM.out]; exact ij.out⟩).mono ?_; rintro e DH ⟨v9, p7, rfl, fF, lg, I⟩; have HSZ := ak (lb HBASE iL); obtain ⟨uk, qN, qO, rfl, gg, fm, ez⟩ := fF; obtain ⟨A1, c1, rfl⟩ := Kd.R_slice gg; obtain ⟨A2, c2, rfl⟩ := Kd.R_slice fm; obtain ⟨NM, hNM⟩ : ∃ NM, NM = nb.attrs.map vc := ⟨_, rfl⟩; rw [← hNM] at ez; have HNM := ak hNM; obtain ⟨A3, c3, rfl⟩ := Kd.R_slice ez; obtain ⟨CO, BU, rfl⟩ := Kd.R_slice lg; have iY := mv I iL; have jt := mv I ju; have jr := mv I js; have iI := mv I ie; have iJ := mv I ig; have iK := mv I ij; have iU := mv I jn; have iy := mv I ic; have pQ := mv I m6; have iT := mv I jm; have iW := mv I jo; have iX := mv I jq; have jx := mv I jy; have jv := mv I jw; have rO := mv I rP; have JK := ak (gg); have Jz := ak (fm); have Kw := ak (ez); have Gm := ak (Kd.R_lower lg HSZ.out); clear HSZ hNM gg fm ez lg I iL ju js ie ig ij jn ic m6 jm jo jq jy jw rP tv)
  | (refine ax (some 13) rfl rfl 62 rfl dM (fun _ => by kernel_rfl) ?_; intro gV PC J aa I; have cG := ge iY J; have ep := ne iU J; have eR := ne iy J; have tE := ne pQ J; have j7 := ne iT J; have eb := ne iW J; have tG := ne iX J; have mA := mv I iY; have n9 := mv I jt; have n8 := mv I jr; have nX := mv I iI; have n5 := mv I iJ; have n6 := mv I iK; have mu := mv I iU; have mr := mv I iy; have IW := mv I pQ; have mq := mv I iT; have my := mv I iW; have mz := mv I iX; have om := mv I jx; have oc := mv I jv; have Jb := mv I rO; have JJ := mv I JK; have Jy := mv I Jz; have Kv := mv I Kw; have Gl := mv I Gm; have kf := ak (aa); clear J aa I iY jt jr iI iJ iK iU iy pQ iT iW iX jx jv rO JK Jz Kw Gm)
  | (refine aN rfl 62 (.tmp 13) (.tmp 85) rfl gV (dt nb.addr nb.aff (.slice A1 nb.slots.length c1) (.slice A2 nb.free.length c2) (.slice A3 NM.length c3)) rfl rfl 62 _ kf.out 5 (by kernel_rfl) rfl rfl (dO _ _ rfl rfl rfl) ?_; intro Gc aa J; have si := gb mA cG J; have rZ := gr n9 kf J; have rW := gr n8 kf J; have rG := gr nX kf J; have rM := gr n5 kf J; have rR := gr n6 kf J; have rB := gx mu kf J; have rz := gn mr eR J; have IV := gx IW kf J; have rq := gx mq kf J; have rE := gn my eb J; have rK := gx mz kf J; have sf := gr om kf J; have sb := gr oc kf J; have Ja := gr Jb kf J; have JI := gr JJ kf J; have Jx := gr Jy kf J; have Ku := gr Kv kf J; have Gk := gr Gl kf J; have fK := ak (aa); clear aa J mA n9 n8 nX n5 n6 mu mr IW mq my mz om oc Jb JJ Jy Kv Gl kf))
 have ai : Below Gc.heap.size Gc Gc.drew := bp (Below.refl _ _)
 have sh := mv ai si; have rY := mv ai rZ; have rV := mv ai rW; have rF := mv ai rG; have rL := mv ai rM; have rQ := mv ai rR; have rA := mv ai rB; have ry := mv ai rz; have IU := mv ai IV; have rp := mv ai rq; have rD := mv ai rE; have rJ := mv ai rK; have se := mv ai sf; have r9 := mv ai sb; have I9 := mv ai Ja; have JH := mv ai JI; have Jw := mv ai Jx; have Kt := mv ai Ku; have Gj := mv ai Gk; have Ag := mv ai fK
 clear ai si rZ rW rG rM rR rB rz IV rq rE rK sf sb Ja JI Jx Ku Gk fK
 have hB := sh
 have hF := rY
 have hG := rV
 have hS := rF
 have hP := rL
 have hM := rQ
 have hX := rA
 have hY := ry
 have hT := IU
 have hZ := rp
 have hU := rD
 have hQ := rJ
 have hC := se
 have hD := r9
 have hO := I9
 have hI := JH
 have hJ := Jw
 have hE := Kt
 have gy := Gj
 have hV := Ag
 clear sh rY rV rF rL rQ rA ry IU rp rD rJ se r9 I9 JH Jw Kt Gj Ag
 refine da (n := 12) (S := fun w' => aH w' gQ (aX nb.addr nb.aff nb.slots (.slice A8 nb.free.length c8) (.slice A9 nb.attrs.length c9)) 57 ∧ aH w' gV (dt nb.addr nb.aff (.slice A1 nb.slots.length c1) (.slice A2 nb.free.length c2) (.slice A3 NM.length c3)) 62) (ds := []) #[false, false, false, false, false, false, false, false, false, false, false, false] (by kernel_rfl) rfl rfl ⟨hQ.out, hV.out⟩ (fun hHeld => ?_); refine bK q9.tab11 q9.bits11 (fun ab bq => ?_)
 refine tk 0 ab.out bq.out hHeld ?_ (hv := by exact fun _ aY => aJ 57 (.tmp 10) rfl gQ rfl _ _ _ aY.1 Try.underlying57 rfl (HLN _ _ _ _))
 refine tk 1 ab.out bq.out hHeld ?_ (hv := by exact fun _ aY => aJ 62 (.tmp 13) rfl gV rfl _ _ _ aY.2 Try.underlying62 rfl (by kernel_rfl))
 refine pu 2 ab.out ?_
 refine pu 3 ab.out ?_
 refine pu 4 ab.out ?_
 refine pu 5 ab.out ?_
 refine pu 6 ab.out ?_
 refine on 7 ab.out (fun K hK => ?_)
 refine gs Try.func61 #[(.slice Ao oo.length co), (.slice CO oo.length BU)] (mm oo HOL.out _ _ _ _ _ (Kd.R_reads' hO.out).2.2 (Kd.R_reads' hO.out).2.1 (Kd.R_reads' gy.out).2.2 (Kd.R_reads' gy.out).2.1) ?_
 rintro e V7 ⟨rfl, I⟩
 refine ⟨_, rfl, ?_⟩
 replace hB := mv I hB; replace hF := mv I hF; replace hG := mv I hG; replace hS := mv I hS; replace hP := mv I hP; replace hM := mv I hM; replace hX := mv I hX; replace hY := mv I hY; replace hT := mv I hT; replace hZ := mv I hZ; replace hU := mv I hU; replace hQ := mv I hQ; replace hC := mv I hC; replace hD := mv I hD; replace hO := mv I hO; replace hI := mv I hI; replace hJ := mv I hJ; replace hE := mv I hE; replace gy := mv I gy; replace hV := mv I hV
 refine kn hK ⟨hQ.out, hV.out⟩ (fun hHeld => ?_)
 clear hK K
 refine pu 8 ab.out ?_
 refine ow 9 ab.out (fun K hK => ?_)
 refine bz (by rfl) rfl 57 (.tmp 6) (.tmp 87) rfl gZ (aX nb.addr nb.aff nb.slots (.slice A8 nb.free.length c8) (.slice A9 nb.attrs.length c9)) rfl rfl 57 _ hZ.out 68 (by kernel_rfl) (ag _ _ _ _ _ HNL.out) rfl (bZ _ _ _ _ _ rfl rfl) ?_
 intro V9 aa J; replace hB := gb hB bO J; replace hF := gr hF hZ J; replace hG := gr hG hZ J; replace hS := gr hS hZ J; replace hP := gr hP hZ J; replace hM := gr hM hZ J; replace hX := gn hX aG J; replace hY := gx hY hZ J; replace hT := gx hT hZ J; replace hU := gx hU hZ J; replace hQ := gm hQ a8 J; replace hC := gr hC hZ J; replace hD := gr hD hZ J; replace hO := gr hO hZ J; replace hI := gr hI hZ J; replace hJ := gr hJ hZ J; replace hE := gr hE hZ J; replace gy := gr gy hZ J; replace hV := gx hV hZ J; replace hZ := ak (aa); clear aa J
 refine hK.out _ _ ⟨hQ.out, hV.out⟩ (fun hHeld => ?_)
 clear hK K
 refine ow 10 ab.out (fun K hK => ?_)
 refine bz (by rfl) rfl 62 (.tmp 7) (.tmp 88) rfl gU (dt nb.addr nb.aff (.slice A1 nb.slots.length c1) (.slice A2 nb.free.length c2) (.slice A3 NM.length c3)) rfl rfl 62 _ hU.out 5 (by kernel_rfl) rfl rfl (dO _ _ rfl rfl rfl) ?_
 intro ub aa J; replace hB := gb hB fx J; replace hF := gr hF hU J; replace hG := gr hG hU J; replace hS := gr hS hU J; replace hP := gr hP hU J; replace hM := gr hM hU J; replace hX := gx hX hU J; replace hY := gn hY dE J; replace hT := gx hT hU J; replace hZ := gx hZ hU J; replace hQ := gx hQ hU J; replace hC := gr hC hU J; replace hD := gr hD hU J; replace hO := gr hO hU J; replace hI := gr hI hU J; replace hJ := gr hJ hU J; replace hE := gr hE hU J; replace gy := gr gy hU J; replace hV := gm hV eb J; replace hU := ak (aa); clear aa J
 refine hK.out _ _ ⟨hQ.out, hV.out⟩ (fun hHeld => ?_)
 clear hK K
 refine pu 11 ab.out ?_
 refine dn ab.out ?_
 clear hHeld
 go_wp2_with fail
 refine bodyPost_ret (eT rfl _ _ _ gZ gU 57 62 _ _ _ _ rfl hZ.out rfl Try.underlying57 (by first | exact HLB.out | exact HLN _ _ _ _) rfl hU.out rfl Try.underlying62 (by kernel_rfl)) rfl ⟨_, _, nb, rfl, ?_, ?_, ?_, hB.out⟩
 ·exact HRG.out
 ·exact ⟨HNL.out, _, _, rfl, hC.out, hD.out⟩
 ·exact ⟨_, _, _, rfl, hI.out, hJ.out, by rw [← HNM.out]; exact hE.out⟩
end Go.Proofs.Ytemhalnhbgkbcaa.V
end

section
namespace Go.Proofs.Ytemhalnhbgkbcaa.V
set_option maxHeartbeats 16000000 in
set_option maxRecDepth 100000 in
theorem Ho (b : Bk) (hg : RG b) (kd : Int) (n : Int) (hn : n < 9223372036854775808) (a : kD) (e9 : a.f0.size ≤ 9223372036854775807) (fB : a.f1.size ≤ 9223372036854775807) (l : List Int) (hu : ∀ x ∈ l, 0 ≤ x ∧ x < 4294967296) (hlm : l.length ≤ 9223372036854775807) (Al : Option Addr) (cl : Nat) (hcl : l.length ≤ cl) (aff : ByteArray) (hza : aff.size ≤ 9223372036854775807) (hk : kd ≠ 0 ∧ kd ≠ 1 ∧ kd ≠ 2 ∧ kd ≠ 3 ∧ kd ≠ 4 ∧ kd ≠ 5 ∧ kd ≠ 6 ∧ kd ≠ 7) (v v2 : Value) (w : World) (base : Nat) (hbase : base ≤ w.heap.size) (hO : ee w base v b) (hR : eM w base v2 b) (hC : Kd.C (Kd.int .u32) w Al l.length l) :
  Calls Try.prog 47 #[v, v2, .agg #[.int .i64 kd, .int .i64 n, .string a.f0, .string a.f1, .slice Al l.length cl, .string aff]] w fun e w' => ∃ v1 v2 b', e = .returned (.tuple #[v1, v2, .bool true]) ∧ RG b' ∧ ee w' base v1 b' ∧ eM w' base v2 b' ∧ Below w.heap.size w w' := by
 obtain ⟨hl, vf, va, rfl, hf, ha⟩ := hO
 obtain ⟨vs, vp, vm, rfl, hs, hp, hm⟩ := hR
 obtain ⟨Af, cf, rfl⟩ := Kd.R_slice hf
 obtain ⟨Aa, ca, rfl⟩ := Kd.R_slice ha
 obtain ⟨As, cs, rfl⟩ := Kd.R_slice hs
 obtain ⟨Ap, cp, rfl⟩ := Kd.R_slice hp
 obtain ⟨M, hM⟩ : ∃ M, M = b.attrs.map vc := ⟨_, rfl⟩
 rw [← hM] at hm
 obtain ⟨Am, cm, rfl⟩ := Kd.R_slice hm
 have HL := ak hl
 have HM := ak hM
 have bl := ak hf
 have dg := ak ha
 have aZ := ak hs
 have ed := ak hp
 have bL := ak hm
 have HG := ak hg
 have ae := ak (Below.refl w.heap.size w)
 have HBASE := ak hbase
 have HLB := ak (b9 (aX b.addr b.aff b.slots (.slice Af b.free.length cf) (.slice Aa b.attrs.length ca)) (ag _ _ _ _ _ HL.out))
 obtain ⟨lt, hlt⟩ : ∃ lt, lt = l.take 80 := ⟨_, rfl⟩
 have hut : ∀ x ∈ lt, 0 ≤ x ∧ x < 4294967296 := fun x hx => hu x (by rw [hlt] at hx; exact List.mem_of_mem_take hx)
 have hll : lt.length = min 80 l.length := by rw [hlt, List.length_take]
 have HCL := ak hcl
 have HLL := ak hll
 have HC := ak hC
 have HCT := ak (fun W (I : Below w.heap.size w W) => (show Kd.C (Kd.int .u32) W Al lt.length lt by
  rcases Nat.lt_or_ge 80 l.length with h | h
  ·have h_ := Kd.C_take (m := 80) (Kd.C_below hC I) (by omega)
   rw [← hlt] at h_
   exact h_
  ·have h_ := Kd.C_below hC I
   have e : lt = l := by rw [hlt, List.take_of_length_le h]
   rw [e]
   exact h_))
 obtain ⟨k0, k1, k2, k3, k4, k5, k6, k7⟩ := hk
 have q0 : (kd = 0) = False := eq_false k0
 have r0 : decide (kd = 0) = false := decide_eq_false k0
 have u0 : (kd == 0) = false := beq_eq_false_iff_ne.mpr k0
 have q1 : (kd = 1) = False := eq_false k1
 have r1 : decide (kd = 1) = false := decide_eq_false k1
 have u1 : (kd == 1) = false := beq_eq_false_iff_ne.mpr k1
 have q2 : (kd = 2) = False := eq_false k2
 have r2 : decide (kd = 2) = false := decide_eq_false k2
 have u2 : (kd == 2) = false := beq_eq_false_iff_ne.mpr k2
 have q3 : (kd = 3) = False := eq_false k3
 have r3 : decide (kd = 3) = false := decide_eq_false k3
 have u3 : (kd == 3) = false := beq_eq_false_iff_ne.mpr k3
 have q4 : (kd = 4) = False := eq_false k4
 have r4 : decide (kd = 4) = false := decide_eq_false k4
 have u4 : (kd == 4) = false := beq_eq_false_iff_ne.mpr k4
 have q5 : (kd = 5) = False := eq_false k5
 have r5 : decide (kd = 5) = false := decide_eq_false k5
 have u5 : (kd == 5) = false := beq_eq_false_iff_ne.mpr k5
 have q6 : (kd = 6) = False := eq_false k6
 have r6 : decide (kd = 6) = false := decide_eq_false k6
 have u6 : (kd == 6) = false := beq_eq_false_iff_ne.mpr k6
 have q7 : (kd = 7) = False := eq_false k7
 have r7 : decide (kd = 7) = false := decide_eq_false k7
 have u7 : (kd == 7) = false := beq_eq_false_iff_ne.mpr k7
 clear k0 k1 k2 k3 k4 k5 k6 k7
 clear hl hM hf ha hs hp hm hbase hC hu hut hll hcl hlt hg
 go_enter Try.func47, Try.ntmps47
 go_upto_if 37 with (first
  | (refine aE rfl 57 (.tmp 0) rfl _ rfl ?_; intro gX W1 J aa I; have bS := ge ae J; have aj := ak (ae.out.trans (I.mono ae.out.size)); have bg := mv I bl; have cH := mv I dg; have bd := mv I aZ; have dc := mv I ed; have bG := mv I bL; have ah := ak (aa); clear J aa I ae bl dg aZ ed bL)
  | (refine aE rfl 62 (.tmp 1) rfl _ rfl ?_; intro gY W2 J aa I; have iZ := ge aj J; have fD := ne ah J; have aw := mv I aj; have bM := mv I bg; have dh := mv I cH; have bF := mv I bd; have dp := mv I dc; have cw := mv I bG; have au := mv I ah; have cr := ak (aa); clear J aa I aj bg cH bd dc bG ah)
  | (refine aE rfl 79 (.tmp 2) rfl _ rfl ?_; intro gT W3 J aa I; have ki := ge aw J; have gW := ne au J; have ix := ne cr J; have aD := mv I aw; have cg := mv I bM; have dL := mv I dh; have b6 := mv I bF; have ec := mv I dp; have dq := mv I cw; have aA := mv I au; have cE := mv I cr; have dQ := ak (aa); clear J aa I aw bM dh bF dp cw au cr)
  | (refine ax (some 6) rfl rfl 57 rfl a7 bJ ?_; intro gZ W4 J aa I; have bO := ge aD J; have aG := ne aA J; have fP := ne cE J; have jG := ne dQ J; have aW := mv I aD; have cd := mv I cg; have dB := mv I dL; have cP := mv I b6; have ey := mv I ec; have dw := mv I dq; have aV := mv I aA; have b5 := mv I cE; have dT := mv I dQ; have bb := ak (aa); clear J aa I aD cg dL b6 ec dq aA cE dQ)
  | (refine ax (some 7) rfl rfl 62 rfl dM (fun _ => by kernel_rfl) ?_; intro gU W5 J aa I; have fx := ge aW J; have gF := ne aV J; have dE := ne b5 J; have jH := ne dT J; have gE := ne bb J; have bf := mv I aW; have b8 := mv I cd; have cW := mv I dB; have cY := mv I cP; have er := mv I ey; have cQ := mv I dw; have a9 := mv I aV; have du := mv I b5; have bw := mv I dT; have bu := mv I bb; have ev := ak (aa); have jE := bw.out.cell 0 _ rfl; have gS := bw.out.cell 1 _ rfl; have jD := bw.out.cell 2 _ rfl; have jC := bw.out.cell 3 _ rfl; have jB := bw.out.cell 4 _ rfl; have gB := bw.out.cell 5 _ rfl; clear J aa I aW cd dB cP ey dw aV b5 dT bb))
 go_cut [9] from 38 to 39 (fun s9 wx => s9 = .slice Al lt.length cl ∧ W5 = wx)
 case first =>
  rcases Nat.lt_or_ge 80 l.length with ll | ll
  ·have lh : decide ((80 : Int) < (l.length : Int)) = true := by simp; omega
   have tZ : (((0 : Int) ≤ 80 ∧ (80 : Int) ≤ (cl : Int)) = True) := eq_true ⟨by omega, by have := HCL.out; omega⟩
   have tY : (((80 : Int) ≤ (cl : Int)) = True) := eq_true (by have := HCL.out; omega)
   go_wp2_with fail
   go_meet
   exact ⟨by rw [HLL.out, Nat.min_eq_left (by omega)], rfl⟩
  ·have lh : decide ((80 : Int) < (l.length : Int)) = false := by simp; omega
   go_wp2_with fail
   go_meet
   exact ⟨by rw [HLL.out, Nat.min_eq_right (by omega)], rfl⟩
 case rest =>
 obtain ⟨gf, fZ⟩ := hcut
 subst gf
 subst fZ
 go_wp2_with fail
 have ai : Below W5.heap.size W5 W5.drew := bp (Below.refl _ _)
 have bD := mv ai bf; have cI := mv ai b8; have dx := mv ai cW; have dm := mv ai cY; have ew := mv ai er; have dU := mv ai cQ; have bj := mv ai a9; have cN := mv ai du; have fq := mv ai bw; have bT := mv ai bu; have dX := mv ai ev
 clear ai bf b8 cW cY er cQ a9 du bw bu ev jE gS jD jC jB gB
 have hB := bD
 have hF := cI
 have hG := dx
 have hS := dm
 have hP := ew
 have hM := dU
 have hX := bj
 have hY := cN
 have hT := fq
 have hZ := bT
 have hU := dX
 clear bD cI dx dm ew dU bj cN fq bT dX
 refine da (n := 5) (S := fun w' => aH w' gX (aX b.addr b.aff b.slots (.slice Af b.free.length cf) (.slice Aa b.attrs.length ca)) 57 ∧ aH w' gY (dt b.addr b.aff (.slice As b.slots.length cs) (.slice Ap b.free.length cp) (.slice Am M.length cm)) 62) (ds := []) #[false, false, false, false, false] (by kernel_rfl) rfl rfl ⟨hX.out, hY.out⟩ (fun hHeld => ?_); refine bK lJ.tab37 lJ.bits37 (fun ab bq => ?_)
 refine tk 0 ab.out bq.out hHeld ?_ (hv := by exact fun _ aY => aJ 57 (.tmp 3) rfl gX rfl _ _ _ aY.1 Try.underlying57 rfl HLB.out)
 refine tk 1 ab.out bq.out hHeld ?_ (hv := by exact fun _ aY => aJ 62 (.tmp 4) rfl gY rfl _ _ _ aY.2 Try.underlying62 rfl (by kernel_rfl))
 refine ow 2 ab.out (fun K hK => ?_)
 refine bz (by rfl) rfl 57 (.tmp 6) (.tmp 235) rfl gZ (aX b.addr b.aff b.slots (.slice Af b.free.length cf) (.slice Aa b.attrs.length ca)) rfl rfl 57 _ hZ.out 68 (by kernel_rfl) (ag _ _ _ _ _ HL.out) rfl (bZ _ _ _ _ _ rfl rfl) ?_
 intro V2 aa J; replace hB := gb hB bO J; replace hF := gr hF hZ J; replace hG := gr hG hZ J; replace hS := gr hS hZ J; replace hP := gr hP hZ J; replace hM := gr hM hZ J; replace hX := gn hX aG J; replace hY := gx hY hZ J; replace hT := gx hT hZ J; replace hU := gx hU hZ J; replace hZ := ak (aa); clear aa J
 refine hK.out _ _ ⟨hX.out, hY.out⟩ (fun hHeld => ?_)
 clear hK K
 refine ow 3 ab.out (fun K hK => ?_)
 refine bz (by rfl) rfl 62 (.tmp 7) (.tmp 236) rfl gU (dt b.addr b.aff (.slice As b.slots.length cs) (.slice Ap b.free.length cp) (.slice Am M.length cm)) rfl rfl 62 _ hU.out 5 (by kernel_rfl) rfl rfl (dO _ _ rfl rfl rfl) ?_
 intro V3 aa J; replace hB := gb hB fx J; replace hF := gr hF hU J; replace hG := gr hG hU J; replace hS := gr hS hU J; replace hP := gr hP hU J; replace hM := gr hM hU J; replace hX := gx hX hU J; replace hY := gn hY dE J; replace hT := gx hT hU J; replace hZ := gx hZ hU J; replace hU := ak (aa); clear aa J
 refine hK.out _ _ ⟨hX.out, hY.out⟩ (fun hHeld => ?_)
 clear hK K
 refine pu 4 ab.out ?_
 refine dn ab.out ?_
 clear hHeld
 go_wp2_with fail
 refine bodyPost_ret (eT rfl _ _ _ gZ gU 57 62 _ _ _ _ rfl hZ.out rfl Try.underlying57 (by first | exact HLB.out | exact HLN _ _ _ _) rfl hU.out rfl Try.underlying62 (by kernel_rfl)) rfl ⟨_, _, b, rfl, ?_, ?_, ?_, hB.out⟩
 ·exact HG.out
 ·exact ⟨HL.out, _, _, rfl, hF.out, hG.out⟩
 ·exact ⟨_, _, _, rfl, hS.out, hP.out, by rw [← HM.out]; exact hM.out⟩
end Go.Proofs.Ytemhalnhbgkbcaa.V
end

section
namespace Go.Proofs.Ytemhalnhbgkbcaa.V
set_option maxHeartbeats 16000000 in
set_option maxRecDepth 100000 in
theorem Nf (b : Bk) (hg : RG b) (n : Int) (hn : n < 9223372036854775808) (a : kD) (e9 : a.f0.size ≤ 9223372036854775807) (fB : a.f1.size ≤ 9223372036854775807) (l : List Int) (hu : ∀ x ∈ l, 0 ≤ x ∧ x < 4294967296) (hlm : l.length ≤ 9223372036854775807) (Al : Option Addr) (cl : Nat) (hcl : l.length ≤ cl) (aff : ByteArray) (hza : aff.size ≤ 9223372036854775807) (v v2 : Value) (w : World) (base : Nat) (hbase : base ≤ w.heap.size) (hO : ee w base v b) (hR : eM w base v2 b) (hC : Kd.C (Kd.int .u32) w Al l.length l) :
  Calls Try.prog 47 #[v, v2, .agg #[.int .i64 4, .int .i64 n, .string a.f0, .string a.f1, .slice Al l.length cl, .string aff]] w fun e w' => ∃ v1 v2 b', e = .returned (.tuple #[v1, v2, .bool true]) ∧ RG b' ∧ ee w' base v1 b' ∧ eM w' base v2 b' ∧ Below w.heap.size w w' := by
 obtain ⟨hl, vf, va, rfl, hf, ha⟩ := hO
 obtain ⟨vs, vp, vm, rfl, hs, hp, hm⟩ := hR
 obtain ⟨Af, cf, rfl⟩ := Kd.R_slice hf
 obtain ⟨Aa, ca, rfl⟩ := Kd.R_slice ha
 obtain ⟨As, cs, rfl⟩ := Kd.R_slice hs
 obtain ⟨Ap, cp, rfl⟩ := Kd.R_slice hp
 obtain ⟨M, hM⟩ : ∃ M, M = b.attrs.map vc := ⟨_, rfl⟩
 rw [← hM] at hm
 obtain ⟨Am, cm, rfl⟩ := Kd.R_slice hm
 have HL := ak hl
 have HM := ak hM
 have bl := ak hf
 have dg := ak ha
 have aZ := ak hs
 have ed := ak hp
 have bL := ak hm
 have HG := ak hg
 have ae := ak (Below.refl w.heap.size w)
 have HBASE := ak hbase
 have HLB := ak (b9 (aX b.addr b.aff b.slots (.slice Af b.free.length cf) (.slice Aa b.attrs.length ca)) (ag _ _ _ _ _ HL.out))
 obtain ⟨lt, hlt⟩ : ∃ lt, lt = l.take 80 := ⟨_, rfl⟩
 have hut : ∀ x ∈ lt, 0 ≤ x ∧ x < 4294967296 := fun x hx => hu x (by rw [hlt] at hx; exact List.mem_of_mem_take hx)
 have hll : lt.length = min 80 l.length := by rw [hlt, List.length_take]
 have HCL := ak hcl
 have HLL := ak hll
 have HC := ak hC
 have HCT := ak (fun W (I : Below w.heap.size w W) => (show Kd.C (Kd.int .u32) W Al lt.length lt by
  rcases Nat.lt_or_ge 80 l.length with h | h
  ·have h_ := Kd.C_take (m := 80) (Kd.C_below hC I) (by omega)
   rw [← hlt] at h_
   exact h_
  ·have h_ := Kd.C_below hC I
   have e : lt = l := by rw [hlt, List.take_of_length_le h]
   rw [e]
   exact h_))
 have hp := iA hg.right
 have hrg := hg.rel lt
 have hbl := fun v w h hC => oP b hg.ok lt hut (by omega) Al cl hg.right v w h hC
 have hrl := fun v w h hC => qc b hg.ok hp hl lt hut (by omega) Al cl v w h hC
 rw [wu hg] at hrl
 obtain ⟨nb, hnb⟩ : ∃ nb, nb = kz b lt := ⟨_, rfl⟩
 obtain ⟨oo, hoo⟩ : ∃ oo, oo = (relL b lt).2 := ⟨_, rfl⟩
 rw [← hnb, ← hoo] at hbl hrl
 rw [← hnb] at hrg
 have hol : oo.length ≤ 1000 := by rw [hoo]; have h_ := (sQ hg.ok hp hl lt lt.length (Nat.le_refl _)).ol; rw [List.take_length] at h_; omega
 have HRG := ak hrg
 have HNL := ak hrg.l64
 have HOL := ak hol
 have HLN := fun A8 c8 A9 c9 => b9 (aX nb.addr nb.aff nb.slots (.slice A8 nb.free.length c8) (.slice A9 nb.attrs.length c9)) (ag _ _ _ _ _ HNL.out)
 have HBL := ak hbl
 have HRL := ak hrl
 clear hrg hbl hrl hol hnb hoo hp
 clear hl hM hf ha hs hp hm hbase hC hu hut hll hcl hlt hg
 go_enter Try.func47, Try.ntmps47
 go_upto_if 37 with (first
  | (refine aE rfl 57 (.tmp 0) rfl _ rfl ?_; intro gX W1 J aa I; have bS := ge ae J; have aj := ak (ae.out.trans (I.mono ae.out.size)); have bg := mv I bl; have cH := mv I dg; have bd := mv I aZ; have dc := mv I ed; have bG := mv I bL; have ah := ak (aa); clear J aa I ae bl dg aZ ed bL)
  | (refine aE rfl 62 (.tmp 1) rfl _ rfl ?_; intro gY W2 J aa I; have iZ := ge aj J; have fD := ne ah J; have aw := mv I aj; have bM := mv I bg; have dh := mv I cH; have bF := mv I bd; have dp := mv I dc; have cw := mv I bG; have au := mv I ah; have cr := ak (aa); clear J aa I aj bg cH bd dc bG ah)
  | (refine aE rfl 79 (.tmp 2) rfl _ rfl ?_; intro gT W3 J aa I; have ki := ge aw J; have gW := ne au J; have ix := ne cr J; have aD := mv I aw; have cg := mv I bM; have dL := mv I dh; have b6 := mv I bF; have ec := mv I dp; have dq := mv I cw; have aA := mv I au; have cE := mv I cr; have dQ := ak (aa); clear J aa I aw bM dh bF dp cw au cr)
  | (refine ax (some 6) rfl rfl 57 rfl a7 bJ ?_; intro gZ W4 J aa I; have bO := ge aD J; have aG := ne aA J; have fP := ne cE J; have jG := ne dQ J; have aW := mv I aD; have cd := mv I cg; have dB := mv I dL; have cP := mv I b6; have ey := mv I ec; have dw := mv I dq; have aV := mv I aA; have b5 := mv I cE; have dT := mv I dQ; have bb := ak (aa); clear J aa I aD cg dL b6 ec dq aA cE dQ)
  | (refine ax (some 7) rfl rfl 62 rfl dM (fun _ => by kernel_rfl) ?_; intro gU W5 J aa I; have fx := ge aW J; have gF := ne aV J; have dE := ne b5 J; have jH := ne dT J; have gE := ne bb J; have bf := mv I aW; have b8 := mv I cd; have cW := mv I dB; have cY := mv I cP; have er := mv I ey; have cQ := mv I dw; have a9 := mv I aV; have du := mv I b5; have bw := mv I dT; have bu := mv I bb; have ev := ak (aa); have jE := bw.out.cell 0 _ rfl; have gS := bw.out.cell 1 _ rfl; have jD := bw.out.cell 2 _ rfl; have jC := bw.out.cell 3 _ rfl; have jB := bw.out.cell 4 _ rfl; have gB := bw.out.cell 5 _ rfl; clear J aa I aW cd dB cP ey dw aV b5 dT bb))
 go_cut [9] from 38 to 39 (fun s9 wx => s9 = .slice Al lt.length cl ∧ W5 = wx)
 case first =>
  rcases Nat.lt_or_ge 80 l.length with ll | ll
  ·have lh : decide ((80 : Int) < (l.length : Int)) = true := by simp; omega
   have tZ : (((0 : Int) ≤ 80 ∧ (80 : Int) ≤ (cl : Int)) = True) := eq_true ⟨by omega, by have := HCL.out; omega⟩
   have tY : (((80 : Int) ≤ (cl : Int)) = True) := eq_true (by have := HCL.out; omega)
   go_wp2_with fail
   go_meet
   exact ⟨by rw [HLL.out, Nat.min_eq_left (by omega)], rfl⟩
  ·have lh : decide ((80 : Int) < (l.length : Int)) = false := by simp; omega
   go_wp2_with fail
   go_meet
   exact ⟨by rw [HLL.out, Nat.min_eq_right (by omega)], rfl⟩
 case rest =>
 obtain ⟨gf, fZ⟩ := hcut
 subst gf
 subst fZ
 go_wp2_with (first
  | ((with_reducible refine av (N := 116) rfl ?_); refine ay rfl 57 (.tmp 3) rfl gX rfl _ _ _ a9.out Try.underlying57 rfl 68 (by kernel_rfl) (ag _ _ _ _ _ HL.out) ?_)
  | (go_at_call 52; refine (HBL.out _ _ ⟨_, _, _, _, rfl, ⟨HL.out, (rr b8).1, (rr b8).2, (rr cW).1, (rr cW).2⟩⟩ (HCT.out _ bf.out)).mono ?_; rintro e W6 ⟨v_, jT, rfl, aU, eC, I⟩; have HSZ := ak (lb HBASE bf); obtain ⟨gR, nE, nF, rfl, cV, dA⟩ := aU; obtain ⟨A8, c8, rfl⟩ := Kd.R_slice cV; obtain ⟨A9, c9, rfl⟩ := Kd.R_slice dA; obtain ⟨Ao, co, rfl⟩ := Kd.R_slice eC; have bD := mv I bf; have cI := mv I b8; have dx := mv I cW; have dm := mv I cY; have ew := mv I er; have dU := mv I cQ; have bj := mv I a9; have cN := mv I du; have fq := mv I bw; have bT := mv I bu; have dX := mv I ev; have me := ak (Kd.R_lower cV HSZ.out); have mb := ak (Kd.R_lower dA HSZ.out); have la := ak (Kd.R_lower eC HSZ.out); clear HSZ gR cV dA eC I bf b8 cW cY er cQ a9 du bw bu ev jE gS jD jC jB gB)
  | (refine ax (some 15) rfl rfl 57 rfl a7 bJ ?_; intro gQ W7 J aa I; have cz := ge bD J; have bk := ne bj J; have tC := ne cN J; have tF := ne fq J; have a8 := ne bT J; have tD := ne dX J; have dR := mv I bD; have eS := mv I cI; have iz := mv I dx; have fQ := mv I dm; have l9 := mv I ew; have jJ := mv I dU; have df := mv I bj; have iO := mv I cN; have nW := mv I fq; have dI := mv I bT; have nV := mv I dX; have mc := mv I me; have ma := mv I mb; have k9 := mv I la; have dv := ak (aa); clear J aa I bD cI dx dm ew dU bj cN fq bT dX me mb la)
  | (refine aN rfl 57 (.tmp 15) (.tmp 119) rfl gQ (aX nb.addr nb.aff nb.slots (.slice A8 nb.free.length c8) (.slice A9 nb.attrs.length c9)) rfl rfl 57 _ dv.out 68 (by kernel_rfl) (ag _ _ _ _ _ HNL.out) rfl (bZ _ _ _ _ _ rfl rfl) ?_; intro W8 aa J; have gO := gb dR cz J; have ko := gr eS dv J; have km := gr iz dv J; have lF := gr fQ dv J; have nm := gr l9 dv J; have np := gr jJ dv J; have gN := gn df bk J; have lD := gx iO dv J; have mL := gx nW dv J; have fI := gn dI a8 J; have nU := gx nV dv J; have oh := gr mc dv J; have ob := gr ma dv J; have pB := gr k9 dv J; have nZ := ak (aa); clear aa J dR eS iz fQ l9 jJ df iO nW dI nV mc ma k9 dv)
  | ((with_reducible refine av (N := 123) rfl ?_); refine ay rfl 62 (.tmp 4) rfl gY rfl _ _ _ lD.out Try.underlying62 rfl 5 (by kernel_rfl) rfl ?_)
  | (go_at_call 84; refine (HRL.out _ _ ⟨M, As, cs, Ap, cp, Am, cm, rfl, (jZ.of HM.out lF.out nm.out np.out)⟩ (HCT.out _ gO.out)).mono ?_; rintro e W9 ⟨v9, p7, rfl, fF, lg, I⟩; have HSZ := ak (lb HBASE gO); obtain ⟨uk, qN, qO, rfl, gg, fm, ez⟩ := fF; obtain ⟨A1, c1, rfl⟩ := Kd.R_slice gg; obtain ⟨A2, c2, rfl⟩ := Kd.R_slice fm; obtain ⟨NM, hNM⟩ : ∃ NM, NM = nb.attrs.map vc := ⟨_, rfl⟩; rw [← hNM] at ez; have HNM := ak hNM; obtain ⟨A3, c3, rfl⟩ := Kd.R_slice ez; obtain ⟨CO, BU, rfl⟩ := Kd.R_slice lg; have kp := mv I gO; have nu := mv I ko; have nt := mv I km; have k8 := mv I lF; have nk := mv I nm; have nn := mv I np; have kl := mv I gN; have kZ := mv I lD; have mK := mv I mL; have j9 := mv I fI; have nh := mv I nU; have oe := mv I oh; have oa := mv I ob; have uZ := mv I pB; have ni := mv I nZ; have CD := ak (Kd.R_lower gg HSZ.out); have NN := ak (Kd.R_lower fm HSZ.out); have NQ := ak (Kd.R_lower ez HSZ.out); have tM := ak (Kd.R_lower lg HSZ.out); clear HSZ hNM gg fm ez lg I gO ko km lF nm np gN lD mL fI nU oh ob pB nZ)
  | (refine ax (some 18) rfl rfl 62 rfl dM (fun _ => by kernel_rfl) ?_; intro gV PD J aa I; have cG := ge kp J; have ep := ne kl J; have eR := ne kZ J; have tE := ne mK J; have j7 := ne j9 J; have eb := ne nh J; have tG := ne ni J; have mB := mv I kp; have r8 := mv I nu; have rX := mv I nt; have nY := mv I k8; have rN := mv I nk; have rS := mv I nn; have mw := mv I kl; have oW := mv I kZ; have pR := mv I mK; have m5 := mv I j9; have pP := mv I nh; have sg := mv I oe; have sd := mv I oa; have Je := mv I uZ; have pU := mv I ni; have rU := mv I CD; have xT := mv I NN; have yn := mv I NQ; have CA := mv I tM; have kg := ak (aa); clear J aa I kp nu nt k8 nk nn kl kZ mK j9 nh oe oa uZ ni CD NN NQ tM)
  | (refine aN rfl 62 (.tmp 18) (.tmp 126) rfl gV (dt nb.addr nb.aff (.slice A1 nb.slots.length c1) (.slice A2 nb.free.length c2) (.slice A3 NM.length c3)) rfl rfl 62 _ kg.out 5 (by kernel_rfl) rfl rfl (dO _ _ rfl rfl rfl) ?_; intro IC aa J; have sk := gb mB cG J; have yj := gr r8 kg J; have yc := gr rX kg J; have rH := gr nY kg J; have xI := gr rN kg J; have xO := gr rS kg J; have nS := gx mw kg J; have xl := gn oW eR J; have xv := gx pR kg J; have rv := gx m5 kg J; have xt := gn pP eb J; have yw := gr sg kg J; have yr := gr sd kg J; have Jd := gr Je kg J; have xE := gx pU kg J; have pV := gr rU kg J; have xS := gr xT kg J; have ym := gr yn kg J; have Gp := gr CA kg J; have jQ := ak (aa); clear aa J mB r8 rX nY rN rS mw oW pR m5 pP sg sd Je pU rU xT yn CA kg))
 have ai : Below IC.heap.size IC IC.drew := bp (Below.refl _ _)
 have sj := mv ai sk; have yi := mv ai yj; have yb := mv ai yc; have pS := mv ai rH; have xH := mv ai xI; have xN := mv ai xO; have nR := mv ai nS; have xk := mv ai xl; have vE := mv ai xv; have pO := mv ai rv; have xr := mv ai xt; have yv := mv ai yw; have yq := mv ai yr; have Jc := mv ai Jd; have xD := mv ai xE; have oY := mv ai pV; have xR := mv ai xS; have yl := mv ai ym; have Gn := mv ai Gp; have iV := mv ai jQ
 clear ai sk yj yc rH xI xO nS xl xv rv xt yw yr Jd xE pV xS ym Gp jQ
 have hB := sj
 have hF := yi
 have hG := yb
 have hS := pS
 have hP := xH
 have hM := xN
 have hX := nR
 have hY := xk
 have hT := vE
 have hZ := pO
 have hU := xr
 have hC := yv
 have hD := yq
 have hO := Jc
 have hQ := xD
 have hI := oY
 have hJ := xR
 have hE := yl
 have gy := Gn
 have hV := iV
 clear sj yi yb pS xH xN nR xk vE pO xr yv yq Jc xD oY xR yl Gn iV
 refine da (n := 12) (S := fun w' => aH w' gQ (aX nb.addr nb.aff nb.slots (.slice A8 nb.free.length c8) (.slice A9 nb.attrs.length c9)) 57 ∧ aH w' gV (dt nb.addr nb.aff (.slice A1 nb.slots.length c1) (.slice A2 nb.free.length c2) (.slice A3 NM.length c3)) 62) (ds := []) #[false, false, false, false, false, false, false, false, false, false, false, false] (by kernel_rfl) rfl rfl ⟨hQ.out, hV.out⟩ (fun hHeld => ?_); refine bK qZ.tab19 qZ.bits19 (fun ab bq => ?_)
 refine tk 0 ab.out bq.out hHeld ?_ (hv := by exact fun _ aY => aJ 57 (.tmp 15) rfl gQ rfl _ _ _ aY.1 Try.underlying57 rfl (HLN _ _ _ _))
 refine tk 1 ab.out bq.out hHeld ?_ (hv := by exact fun _ aY => aJ 62 (.tmp 18) rfl gV rfl _ _ _ aY.2 Try.underlying62 rfl (by kernel_rfl))
 refine pu 2 ab.out ?_
 refine pu 3 ab.out ?_
 refine pu 4 ab.out ?_
 refine pu 5 ab.out ?_
 refine pu 6 ab.out ?_
 refine on 7 ab.out (fun K hK => ?_)
 refine gs Try.func61 #[(.slice Ao oo.length co), (.slice CO oo.length BU)] (mm oo HOL.out _ _ _ _ _ (Kd.R_reads' hO.out).2.2 (Kd.R_reads' hO.out).2.1 (Kd.R_reads' gy.out).2.2 (Kd.R_reads' gy.out).2.1) ?_
 rintro e V7 ⟨rfl, I⟩
 refine ⟨_, rfl, ?_⟩
 replace hB := mv I hB; replace hF := mv I hF; replace hG := mv I hG; replace hS := mv I hS; replace hP := mv I hP; replace hM := mv I hM; replace hX := mv I hX; replace hY := mv I hY; replace hT := mv I hT; replace hZ := mv I hZ; replace hU := mv I hU; replace hC := mv I hC; replace hD := mv I hD; replace hO := mv I hO; replace hQ := mv I hQ; replace hI := mv I hI; replace hJ := mv I hJ; replace hE := mv I hE; replace gy := mv I gy; replace hV := mv I hV
 refine kn hK ⟨hQ.out, hV.out⟩ (fun hHeld => ?_)
 clear hK K
 refine pu 8 ab.out ?_
 refine ow 9 ab.out (fun K hK => ?_)
 refine bz (by rfl) rfl 57 (.tmp 6) (.tmp 128) rfl gZ (aX nb.addr nb.aff nb.slots (.slice A8 nb.free.length c8) (.slice A9 nb.attrs.length c9)) rfl rfl 57 _ hZ.out 68 (by kernel_rfl) (ag _ _ _ _ _ HNL.out) rfl (bZ _ _ _ _ _ rfl rfl) ?_
 intro V9 aa J; replace hB := gb hB bO J; replace hF := gr hF hZ J; replace hG := gr hG hZ J; replace hS := gr hS hZ J; replace hP := gr hP hZ J; replace hM := gr hM hZ J; replace hX := gn hX aG J; replace hY := gx hY hZ J; replace hT := gx hT hZ J; replace hU := gx hU hZ J; replace hC := gr hC hZ J; replace hD := gr hD hZ J; replace hO := gr hO hZ J; replace hQ := gm hQ a8 J; replace hI := gr hI hZ J; replace hJ := gr hJ hZ J; replace hE := gr hE hZ J; replace gy := gr gy hZ J; replace hV := gx hV hZ J; replace hZ := ak (aa); clear aa J
 refine hK.out _ _ ⟨hQ.out, hV.out⟩ (fun hHeld => ?_)
 clear hK K
 refine ow 10 ab.out (fun K hK => ?_)
 refine bz (by rfl) rfl 62 (.tmp 7) (.tmp 129) rfl gU (dt nb.addr nb.aff (.slice A1 nb.slots.length c1) (.slice A2 nb.free.length c2) (.slice A3 NM.length c3)) rfl rfl 62 _ hU.out 5 (by kernel_rfl) rfl rfl (dO _ _ rfl rfl rfl) ?_
 intro ub aa J; replace hB := gb hB fx J; replace hF := gr hF hU J; replace hG := gr hG hU J; replace hS := gr hS hU J; replace hP := gr hP hU J; replace hM := gr hM hU J; replace hX := gx hX hU J; replace hY := gn hY dE J; replace hT := gx hT hU J; replace hZ := gx hZ hU J; replace hC := gr hC hU J; replace hD := gr hD hU J; replace hO := gr hO hU J; replace hQ := gx hQ hU J; replace hI := gr hI hU J; replace hJ := gr hJ hU J; replace hE := gr hE hU J; replace gy := gr gy hU J; replace hV := gm hV eb J; replace hU := ak (aa); clear aa J
 refine hK.out _ _ ⟨hQ.out, hV.out⟩ (fun hHeld => ?_)
 clear hK K
 refine pu 11 ab.out ?_
 refine dn ab.out ?_
 clear hHeld
 go_wp2_with fail
 refine bodyPost_ret (eT rfl _ _ _ gZ gU 57 62 _ _ _ _ rfl hZ.out rfl Try.underlying57 (by first | exact HLB.out | exact HLN _ _ _ _) rfl hU.out rfl Try.underlying62 (by kernel_rfl)) rfl ⟨_, _, nb, rfl, ?_, ?_, ?_, hB.out⟩
 ·exact HRG.out
 ·exact ⟨HNL.out, _, _, rfl, hC.out, hD.out⟩
 ·exact ⟨_, _, _, rfl, hI.out, hJ.out, by rw [← HNM.out]; exact hE.out⟩
end Go.Proofs.Ytemhalnhbgkbcaa.V
end

