/- The law ImagePlays for every input: texts of ours, put together (part 14 of 17). No further condition. -/
import Derived.Test.YtemhalnhbgkbcaaCImagePlaysx2
import Derived.Test.YtemhalnhbgkbcaaCImagePlaysx6
import Derived.Test.YtemhalnhbgkbcaaCImagePlaysx12
import Derived.Outline
set_option linter.unusedVariables false
set_option linter.unusedSimpArgs false
open Go.RowKit Go.Proofs.YtemhalnhbgkbcaaW.PrintWords Go.Proofs.YtemhalnhbgkbcaaW.PrintLast Go.Proofs.YtemhalnhbgkbcaaW.PrintMore Go.Proofs.Ytemhalnhbgkbcaa.Z
section
namespace Go.Proofs.Ytemhalnhbgkbcaa.V
set_option maxHeartbeats 16000000 in
set_option maxRecDepth 100000 in
theorem NF (b : Bk) (hg : RG b) (kd : Int) (hkd : kd = 0 ∨ kd = 1) (n : Int) (hn : n < 9223372036854775808) (a : ln) (eW : a.f0.size ≤ 9223372036854775807) (fA : a.f1.size ≤ 9223372036854775807) (l : List Int) (hu : ∀ x ∈ l, 0 ≤ x ∧ x < 4294967296) (hlm : l.length ≤ 9223372036854775807) (Al : Option Addr) (cl : Nat) (hcl : l.length ≤ cl) (aff : ByteArray) (hza : aff.size ≤ 9223372036854775807) (hma : ep (cv a) = false) (v v2 : Value) (w : World) (base : Nat) (hbase : base ≤ w.heap.size) (hO : ey w base v b) (hR : eU w base v2 b) (hC : Kd.C (Kd.int .u32) w Al l.length l) :
  Calls Try.prog 47 #[v, v2, .agg #[.int .i64 kd, .int .i64 n, .string a.f0, .string a.f1, .slice Al l.length cl, .string aff]] w fun e w' => ∃ v1 v2 b', e = .returned (.tuple #[v1, v2, .bool true]) ∧ RG b' ∧ ey w' base v1 b' ∧ eU w' base v2 b' ∧ Below w.heap.size w w' := by
 obtain ⟨hl, vf, va, rfl, hf, ha⟩ := hO
 obtain ⟨vs, vp, vm, rfl, hs, hp, hm⟩ := hR
 obtain ⟨Af, cf, rfl⟩ := Kd.R_slice hf
 obtain ⟨Aa, ca, rfl⟩ := Kd.R_slice ha
 obtain ⟨As, cs, rfl⟩ := Kd.R_slice hs
 obtain ⟨Ap, cp, rfl⟩ := Kd.R_slice hp
 obtain ⟨M, hM⟩ : ∃ M, M = b.attrs.map vc := ⟨_, rfl⟩
 rw [← hM] at hm
 obtain ⟨Am, cm, rfl⟩ := Kd.R_slice hm
 have HL := ak hl
 have HM := ak hM
 have bw := ak hf
 have eh := ak ha
 have aV := ak hs
 have eo := ak hp
 have bS := ak hm
 have HG := ak hg
 have ag := ak (Below.refl w.heap.size w)
 have HBASE := ak hbase
 have HLB := ak (ch (aU b.addr b.aff b.slots (.slice Af b.free.length cf) (.slice Aa b.attrs.length ca)) (ah _ _ _ _ _ HL.out))
 obtain ⟨lt, hlt⟩ : ∃ lt, lt = l.take 80 := ⟨_, rfl⟩
 have hut : ∀ x ∈ lt, 0 ≤ x ∧ x < 4294967296 := fun x hx => hu x (by rw [hlt] at hx; exact List.mem_of_mem_take hx)
 have hll : lt.length = min 80 l.length := by rw [hlt, List.length_take]
 have HCL := ak hcl
 have HLL := ak hll
 have HC := ak hC
 have HCT := ak (fun W (I : Below w.heap.size w W) => (show Kd.C (Kd.int .u32) W Al lt.length lt by
  rcases Nat.lt_or_ge 80 l.length with h | h
  ·have h_ := Kd.C_take (m := 80) (Kd.C_below hC I) (by omega)
   rw [← hlt] at h_
   exact h_
  ·have h_ := Kd.C_below hC I
   have e : lt = l := by rw [hlt, List.take_of_length_le h]
   rw [e]
   exact h_))
 have hbl := fun v w h => vH b hg.ok n hn (cv a) v w h
 have hok : m3 b n (cv a) = false := by unfold m3; rw [hma]; simp
 rw [hok] at hbl
 simp only [Bool.false_eq_true, if_false, if_true] at hbl
 have HMY := ak (fun w => rX a eW fA w)
 rw [hma] at HMY
 obtain ⟨nb, hnb⟩ : ∃ nb, nb = km := ⟨_, rfl⟩
 have hnl : km.slots.length = 64 := rfl
 rw [← hnb] at hbl hnl
 have HNB := ak hnb
 have HNL := ak hnl
 have HLN := fun A8 c8 A9 c9 => ch (aU nb.addr nb.aff nb.slots (.slice A8 nb.free.length c8) (.slice A9 nb.attrs.length c9)) (ah _ _ _ _ _ HNL.out)
 have HZR := ak (fun v w h => pO v w (by rw [← HNB.out]; exact h))
 obtain ⟨oo, hoo⟩ : ∃ oo : List Int, oo = [] := ⟨_, rfl⟩
 rw [← hoo] at hbl
 have o0 : decide ((oo.length : Int) = 0) = true := by rw [hoo]; rfl
 have o1 : ((oo.length : Int) == 0) = true := by rw [hoo]; rfl
 have o2 : ((oo.length : Int) = 0) = True := by rw [hoo]; simp
 have o3 : (oo.length = 0) = True := by rw [hoo]; simp
 have o4 : (oo = []) = True := eq_true hoo
 have HBL := ak hbl
 clear hbl hnb hnl hma hok hoo
 have HKD := ak hkd
 clear hkd
 clear hl hM hf ha hs hp hm hbase hC hu hut hll hcl hlt hg
 go_enter Try.func47, Try.ntmps47
 go_upto_if 37 with (first
  | (refine aD rfl 57 (.tmp 0) rfl _ rfl ?_; intro gX W1 J aa I; have cg := ge ag J; have ao := ak (ag.out.trans (I.mono ag.out.size)); have bp := mv I bw; have dk := mv I eh; have bb := mv I aV; have dg := mv I eo; have bN := mv I bS; have aj := ak (aa); clear J aa I ag bw eh aV eo bS)
  | (refine aD rfl 62 (.tmp 1) rfl _ rfl ?_; intro gY W2 J aa I; have j8 := ge ao J; have gC := ne aj J; have ay := mv I ao; have bX := mv I bp; have dG := mv I dk; have bK := mv I bb; have di := mv I dg; have cC := mv I bN; have aw := mv I aj; have cA := ak (aa); clear J aa I ao bp dk bb dg bN aj)
  | (refine aD rfl 79 (.tmp 2) rfl _ rfl ?_; intro gT W3 J aa I; have kE := ge ay J; have ie := ne aw J; have iI := ne cA J; have aE := mv I ay; have cy := mv I bX; have dU := mv I dG; have b6 := mv I bK; have dS := mv I di; have da := mv I cC; have aC := mv I aw; have cB := mv I cA; have dN := ak (aa); clear J aa I ay bX dG bK di cC aw cA)
  | (refine au (some 6) rfl rfl 57 rfl a6 bT ?_; intro gZ W4 J aa I; have cb := ge aE J; have aG := ne aC J; have gP := ne cB J; have jS := ne dN J; have a8 := mv I aE; have cx := mv I cy; have dF := mv I dU; have cw := mv I b6; have eb := mv I dS; have cR := mv I da; have aY := mv I aC; have b5 := mv I cB; have dR := mv I dN; have bd := ak (aa); clear J aa I aE cy dU b6 dS da aC cB dN)
  | (refine au (some 7) rfl rfl 62 rfl dH (fun _ => by kernel_rfl) ?_; intro gU W5 J aa I; have fG := ge a8 J; have gR := ne aY J; have dw := ne b5 J; have jT := ne dR J; have gO := ne bd J; have bj := mv I a8; have cj := mv I cx; have cW := mv I dF; have cQ := mv I cw; have ek := mv I eb; have cH := mv I cR; have bc := mv I aY; have cY := mv I b5; have bB := mv I dR; have bI := mv I bd; have eV := ak (aa); have jP := bB.out.cell 0 _ rfl; have ic := bB.out.cell 1 _ rfl; have jO := bB.out.cell 2 _ rfl; have jN := bB.out.cell 3 _ rfl; have jM := bB.out.cell 4 _ rfl; have gN := bB.out.cell 5 _ rfl; clear J aa I a8 cx dF cw eb cR aY b5 dR bd))
 go_cut [9] from 38 to 39 (fun s9 wx => s9 = .slice Al lt.length cl ∧ W5 = wx)
 case first =>
  rcases Nat.lt_or_ge 80 l.length with lY | lY
  ·have lX : decide ((80 : Int) < (l.length : Int)) = true := by simp; omega
   have we : (((0 : Int) ≤ 80 ∧ (80 : Int) ≤ (cl : Int)) = True) := eq_true ⟨by omega, by have := HCL.out; omega⟩
   have wb : (((80 : Int) ≤ (cl : Int)) = True) := eq_true (by have := HCL.out; omega)
   go_wp2_with fail
   go_meet
   exact ⟨by rw [HLL.out, Nat.min_eq_left (by omega)], rfl⟩
  ·have lX : decide ((80 : Int) < (l.length : Int)) = false := by simp; omega
   go_wp2_with fail
   go_meet
   exact ⟨by rw [HLL.out, Nat.min_eq_right (by omega)], rfl⟩
 case rest =>
 obtain ⟨gy, gw⟩ := hcut
 subst gy
 subst gw
 go_upto_if 42 with fail
 go_cut [42] from 43 to 44 (fun vv wx => vv = .bool true ∧ W5 = wx)
 case first =>
  rcases HKD.out with dc | dc
  ·skip
   have BC : (kd = 0) = True := eq_true (by omega)
   have Ht : decide (kd = 0) = true := by simp; omega
   have Hl : (kd == 0) = true := by simp; omega
   clear dc
   go_wp2_with fail
   go_meet
   exact ⟨by first | rfl | simp [BC], rfl⟩
  ·skip
   have BC : (kd = 0) = False := eq_false (by omega)
   have Ht : decide (kd = 0) = false := by simp; omega
   have Hl : (kd == 0) = false := by simp; omega
   have Hv : (kd = 1) = True := eq_true (by omega)
   have SF : decide (kd = 1) = true := by simp; omega
   have SC : (kd == 1) = true := by simp; omega
   clear dc
   go_wp2_with fail
   go_meet
   exact ⟨by first | rfl | simp [Hv], rfl⟩
 case rest =>
 obtain ⟨gy, gw⟩ := hcut
 subst gy
 subst gw
 go_wp2_with fail
 have al : Below W5.heap.size W5 W5.drew := br (Below.refl _ _)
 have bO := mv al bj; have cU := mv al cj; have dt := mv al cW; have cZ := mv al cQ; have er := mv al ek; have dE := mv al cH; have bl := mv al bc; have dh := mv al cY; have fy := mv al bB; have bW := mv al bI; have eg := mv al eV
 clear al bj cj cW cQ ek cH bc cY bB bI eV jP ic jO jN jM gN
 have hB := bO
 have hF := cU
 have hG := dt
 have hS := cZ
 have hP := er
 have hM := dE
 have hX := bl
 have hY := dh
 have hT := fy
 have hZ := bW
 have hU := eg
 clear bO cU dt cZ er dE bl dh fy bW eg
 refine dd (n := 15) (S := fun w' => aH w' gX (aU b.addr b.aff b.slots (.slice Af b.free.length cf) (.slice Aa b.attrs.length ca)) 57 ∧ aH w' gT [.int .i64 kd, .int .i64 n, .string a.f0, .string a.f1, .slice Al l.length cl, .string aff] 79) (ds := []) #[false, false, false, false, false, false, false, false, false, false, false, false, false, false, false] (by kernel_rfl) rfl rfl ⟨hX.out, hT.out⟩ (fun hHeld => ?_); refine bQ qC.tab7 qC.bits7 (fun ae bA => ?_)
 refine tk 0 ae.out bA.out hHeld ?_ (hv := by exact fun _ aZ => aQ 57 (.tmp 3) rfl gX rfl _ _ _ aZ.1 Try.underlying57 rfl HLB.out)
 refine pu 1 ae.out ?_
 refine tk 2 ae.out bA.out hHeld ?_ (hv := by intro w' aZ; have FG := aZ.2.cell 1 _ rfl; go_simp; with_reducible rfl)
 refine pu 3 ae.out ?_
 refine tk 4 ae.out bA.out hHeld ?_ (hv := by exact fun _ aZ => oN 76 (.tmp 49) rfl gT 2 rfl _ _ [.string a.f0, .string a.f1] _ aZ.2 wL Try.underlying76 rfl (by kernel_rfl))
 refine qS (σ := Nat × Value × Value) 3 #[true, true, true, true, true, true, true, true, true, true, true, true, false, false, false] (fun s => [(51, eT (cv a)), (52, .tuple #[s.2.1, s.2.2, .int .i64 1]), (45, .tuple #[s.2.1, s.2.2, .int .i64 1]), (53, s.2.1), (54, s.2.2), (55, .int .i64 1), (10, .pointer (some ⟨s.1, 0, none⟩))]) (fun s w' => Aside0 (Below w.heap.size w w') ∧ Aside0 (Kd.R (Kd.int .u8) 5 w' base (fun _ => True) (.slice Af b.free.length cf) b.free) ∧ Aside0 (Kd.R ju 85 w' base (fun _ => True) (.slice Aa b.attrs.length ca) b.attrs) ∧ Aside0 (Kd.R (Kd.int .i64) 3 w' base (fun _ => True) (.slice As b.slots.length cs) b.slots) ∧ Aside0 (Kd.R (Kd.int .i64) 3 w' base (fun _ => True) (.slice Ap b.free.length cp) b.free) ∧ Aside0 (Kd.R ib 76 w' base (fun _ => True) (.slice Am M.length cm) M) ∧ Aside0 (aH w' gX (aU b.addr b.aff b.slots (.slice Af b.free.length cf) (.slice Aa b.attrs.length ca)) 57) ∧ Aside0 (aH w' gY (dj b.addr b.aff (.slice As b.slots.length cs) (.slice Ap b.free.length cp) (.slice Am M.length cm)) 62) ∧ Aside0 (aH w' gT [.int .i64 kd, .int .i64 n, .string a.f0, .string a.f1, .slice Al l.length cl, .string aff] 79) ∧ Aside0 (aH w' gZ a6 57) ∧ Aside0 (aH w' gU dH 62) ∧ Aside0 (aH w' s.1 a6 57) ∧ Aside0 (w.heap.size ≤ s.1) ∧ Aside0 (gX ≠ s.1) ∧ Aside0 (gZ ≠ s.1) ∧ Aside0 (ey w' base s.2.1 nb) ∧ Aside0 (Kd.R (Kd.int .u32) 46 w' base (fun _ => True) s.2.2 oo)) ?_ ?_
 rotate_left
 ·intro eF
  refine tw 5 11 ae.out (fun K hK => ?_) (fun K hK => ?_)
  ·skip
   refine gs Try.func50 #[.agg #[.string a.f0, .string a.f1]] (kX a _) ?_
   rintro e V5 ⟨rfl, I⟩
   refine ⟨_, rfl, ?_⟩
   (try replace hV := mv I hV); (try replace dr := mv I dr); (try replace hQ := mv I hQ); replace hB := mv I hB; replace hF := mv I hF; replace hG := mv I hG; replace hS := mv I hS; replace hP := mv I hP; replace hM := mv I hM; replace hX := mv I hX; replace hY := mv I hY; replace hT := mv I hT; replace hZ := mv I hZ; replace hU := mv I hU; clear  I
   refine kn hK ⟨hX.out, hT.out⟩ (fun hHeld => ?_)
   clear hK K
   refine tw 6 11 ae.out (fun K hK => ?_) (fun K hK => ?_)
   ·skip
    refine gs Try.func49 #[.agg (aU b.addr b.aff b.slots (.slice Af b.free.length cf) (.slice Aa b.attrs.length ca)).toArray, .int .i64 n, eT (cv a)] (HBL.out _ _ ⟨_, _, _, _, rfl, ⟨HL.out, (rr hF).1, (rr hF).2, (rr hG).1, (rr hG).2⟩⟩) ?_
    rintro e V6 ⟨v_, mE, rfl, aW, fR, I⟩
    refine ⟨_, rfl, ?_⟩
    have hV := ak (aW.lower (lb HBASE hB)); have dr := ak (Kd.R_lower fR (lb HBASE hB)); (try replace hQ := mv I hQ); replace hB := mv I hB; replace hF := mv I hF; replace hG := mv I hG; replace hS := mv I hS; replace hP := mv I hP; replace hM := mv I hM; replace hX := mv I hX; replace hY := mv I hY; replace hT := mv I hT; replace hZ := mv I hZ; replace hU := mv I hU; clear aW fR I
    refine kn hK ⟨hX.out, hT.out⟩ (fun hHeld => ?_)
    clear hK K
    refine pu 7 ae.out ?_
    refine pu 8 ae.out ?_
    refine pu 9 ae.out ?_
    refine pu 10 ae.out ?_
    refine on 11 ae.out (fun K hK => ?_)
    refine dO (by rfl) 57 rfl a6 bT ?_
    intro gQ qx J aa I
    have cE := ge hB J
    have bk := ne hX J
    have a7 := ne hZ J
    (try replace hV := mv I hV)
    (try replace dr := mv I dr)
    replace hB := mv I hB
    replace hF := mv I hF
    replace hG := mv I hG
    replace hS := mv I hS
    replace hP := mv I hP
    replace hM := mv I hM
    replace hX := mv I hX
    replace hY := mv I hY
    replace hT := mv I hT
    replace hZ := mv I hZ
    replace hU := mv I hU
    have hQ := ak aa
    clear J aa I
    refine kn hK ⟨hX.out, hT.out⟩ (fun hHeld => ?_)
    clear hK K
    exact nc (eF ⟨gQ, v_, mE⟩ _ ⟨hB, hF, hG, hS, hP, hM, hX, hY, hT, hZ, hU, hQ, cE, bk, a7, hV, dr⟩)
   ·skip
    refine dO (by rfl) 57 rfl a6 bT ?_
    intro gQ qx J aa I
    have cE := ge hB J
    have bk := ne hX J
    have a7 := ne hZ J
    (try replace hV := mv I hV)
    (try replace dr := mv I dr)
    replace hB := mv I hB
    replace hF := mv I hF
    replace hG := mv I hG
    replace hS := mv I hS
    replace hP := mv I hP
    replace hM := mv I hM
    replace hX := mv I hX
    replace hY := mv I hY
    replace hT := mv I hT
    replace hZ := mv I hZ
    replace hU := mv I hU
    have hQ := ak aa
    clear J aa I
    refine kn hK ⟨hX.out, hT.out⟩ (fun hHeld => ?_)
    clear hK K
    refine on 6 ae.out (fun K hK => ?_)
    refine gs Try.func49 #[.agg (aU b.addr b.aff b.slots (.slice Af b.free.length cf) (.slice Aa b.attrs.length ca)).toArray, .int .i64 n, eT (cv a)] (HBL.out _ _ ⟨_, _, _, _, rfl, ⟨HL.out, (rr hF).1, (rr hF).2, (rr hG).1, (rr hG).2⟩⟩) ?_
    rintro e V6 ⟨v_, mE, rfl, aW, fR, I⟩
    refine ⟨_, rfl, ?_⟩
    have hV := ak (aW.lower (lb HBASE hB)); have dr := ak (Kd.R_lower fR (lb HBASE hB)); (try replace hQ := mv I hQ); replace hB := mv I hB; replace hF := mv I hF; replace hG := mv I hG; replace hS := mv I hS; replace hP := mv I hP; replace hM := mv I hM; replace hX := mv I hX; replace hY := mv I hY; replace hT := mv I hT; replace hZ := mv I hZ; replace hU := mv I hU; clear aW fR I
    refine kn hK ⟨hX.out, hT.out⟩ (fun hHeld => ?_)
    clear hK K
    refine pu 7 ae.out ?_
    refine pu 8 ae.out ?_
    refine pu 9 ae.out ?_
    refine pu 10 ae.out ?_
    exact nc (eF ⟨gQ, v_, mE⟩ _ ⟨hB, hF, hG, hS, hP, hM, hX, hY, hT, hZ, hU, hQ, cE, bk, a7, hV, dr⟩)
  ·skip
   refine dO (by rfl) 57 rfl a6 bT ?_
   intro gQ qx J aa I
   have cE := ge hB J
   have bk := ne hX J
   have a7 := ne hZ J
   (try replace hV := mv I hV)
   (try replace dr := mv I dr)
   replace hB := mv I hB
   replace hF := mv I hF
   replace hG := mv I hG
   replace hS := mv I hS
   replace hP := mv I hP
   replace hM := mv I hM
   replace hX := mv I hX
   replace hY := mv I hY
   replace hT := mv I hT
   replace hZ := mv I hZ
   replace hU := mv I hU
   have hQ := ak aa
   clear J aa I
   refine kn hK ⟨hX.out, hT.out⟩ (fun hHeld => ?_)
   clear hK K
   refine on 5 ae.out (fun K hK => ?_)
   refine gs Try.func50 #[.agg #[.string a.f0, .string a.f1]] (kX a _) ?_
   rintro e V5 ⟨rfl, I⟩
   refine ⟨_, rfl, ?_⟩
   (try replace hV := mv I hV); (try replace dr := mv I dr); (try replace hQ := mv I hQ); replace hB := mv I hB; replace hF := mv I hF; replace hG := mv I hG; replace hS := mv I hS; replace hP := mv I hP; replace hM := mv I hM; replace hX := mv I hX; replace hY := mv I hY; replace hT := mv I hT; replace hZ := mv I hZ; replace hU := mv I hU; clear  I
   refine kn hK ⟨hX.out, hT.out⟩ (fun hHeld => ?_)
   clear hK K
   refine on 6 ae.out (fun K hK => ?_)
   refine gs Try.func49 #[.agg (aU b.addr b.aff b.slots (.slice Af b.free.length cf) (.slice Aa b.attrs.length ca)).toArray, .int .i64 n, eT (cv a)] (HBL.out _ _ ⟨_, _, _, _, rfl, ⟨HL.out, (rr hF).1, (rr hF).2, (rr hG).1, (rr hG).2⟩⟩) ?_
   rintro e V6 ⟨v_, mE, rfl, aW, fR, I⟩
   refine ⟨_, rfl, ?_⟩
   have hV := ak (aW.lower (lb HBASE hB)); have dr := ak (Kd.R_lower fR (lb HBASE hB)); (try replace hQ := mv I hQ); replace hB := mv I hB; replace hF := mv I hF; replace hG := mv I hG; replace hS := mv I hS; replace hP := mv I hP; replace hM := mv I hM; replace hX := mv I hX; replace hY := mv I hY; replace hT := mv I hT; replace hZ := mv I hZ; replace hU := mv I hU; clear aW fR I
   refine kn hK ⟨hX.out, hT.out⟩ (fun hHeld => ?_)
   clear hK K
   refine pu 7 ae.out ?_
   refine pu 8 ae.out ?_
   refine pu 9 ae.out ?_
   refine pu 10 ae.out ?_
   exact nc (eF ⟨gQ, v_, mE⟩ _ ⟨hB, hF, hG, hS, hP, hM, hX, hY, hT, hZ, hU, hQ, cE, bk, a7, hV, dr⟩)
 intro s w' hFF; obtain ⟨gQ, v_, mE⟩ := s; simp only at hFF; obtain ⟨hB, hF, hG, hS, hP, hM, hX, hY, hT, hZ, hU, hQ, cE, bk, a7, hV, dr⟩ := hFF; have aW := hV.out; obtain ⟨kS, sw, sy, rfl, dQ, eE⟩ := aW; obtain ⟨A8, c8, rfl⟩ := Kd.R_slice dQ; obtain ⟨A9, c9, rfl⟩ := Kd.R_slice eE; obtain ⟨Ao, co, rfl⟩ := Kd.R_slice dr.out; have hC := ak dQ; have hD := ak eE; have hO := dr; clear hV dr kS dQ eE
 refine nj ?_
 refine ow 12 ae.out (fun K hK => ?_)
 refine bJ (by rfl) rfl 57 (.tmp 10) (.tmp 53) rfl gQ (aU nb.addr nb.aff nb.slots (.slice A8 nb.free.length c8) (.slice A9 nb.attrs.length c9)) rfl rfl 57 _ hQ.out 68 (by kernel_rfl) (ah _ _ _ _ _ HNL.out) rfl (b7 _ _ _ _ _ rfl rfl) ?_
 intro PY aa J; replace hB := gb hB cE J; replace hF := gr hF hQ J; replace hG := gr hG hQ J; replace hS := gr hS hQ J; replace hP := gr hP hQ J; replace hM := gr hM hQ J; replace hX := gn hX bk J; replace hY := gx hY hQ J; replace hT := gx hT hQ J; replace hZ := gn hZ a7 J; replace hU := gx hU hQ J; replace hC := gr hC hQ J; replace hD := gr hD hQ J; replace hO := gr hO hQ J; replace hQ := ak (aa); clear aa J
 refine hK.out _ _ ⟨hX.out, hT.out⟩ (fun hHeld => ?_)
 clear hK K
 refine pu 13 ae.out ?_
 refine pu 14 ae.out ?_
 refine dn ae.out ?_
 clear hHeld
 have ic := hT.out.cell 1 _ rfl
 go_wp2_with (first
  | ((with_reducible refine av (N := 57) rfl ?_); refine fH rfl 76 (.tmp 56) rfl gT 2 rfl 79 _ [.string a.f0, .string a.f1] _ hT.out wL Try.underlying76 rfl (by kernel_rfl) ?_)
  | (go_at_call 60; refine (HMY.out _).mono ?_; rintro e so ⟨rfl, I⟩; have iZ := mv I hB; have jF := mv I hF; have jD := mv I hG; have iB := mv I hS; have iC := mv I hP; have iD := mv I hM; have jz := mv I hX; have iA := mv I hY; have nS := mv I hT; have jy := mv I hZ; have jA := mv I hU; have jB := mv I hQ; have jJ := mv I hC; have jH := mv I hD; have tB := mv I hO; have Dl := nS.out.cell 1 _ rfl; clear I hB hF hG hS hP hM hX hY hT hZ hU hQ hC hD hO ic))
 clear Dl
 have al : Below so.heap.size so so.drew := br (Below.refl _ _)
 have jn := mv al iZ; have jE := mv al jF; have jC := mv al jD; have iW := mv al iB; have iX := mv al iC; have iY := mv al iD; have ji := mv al jz; have iJ := mv al iA; have rb := mv al nS; have jh := mv al jy; have jl := mv al jA; have jm := mv al jB; have jI := mv al jJ; have jG := mv al jH; have tA := mv al tB
 clear al iZ jF jD iB iC iD jz iA nS jy jA jB jJ jH tB
 have hB := jn
 have hF := jE
 have hG := jC
 have hS := iW
 have hP := iX
 have hM := iY
 have hX := ji
 have hY := iJ
 have hT := rb
 have hZ := jh
 have hU := jl
 have hQ := jm
 have hC := jI
 have hD := jG
 have hO := tA
 clear jn jE jC iW iX iY ji iJ rb jh jl jm jI jG tA
 refine dd (n := 16) (S := fun w' => aH w' gX (aU b.addr b.aff b.slots (.slice Af b.free.length cf) (.slice Aa b.attrs.length ca)) 57 ∧ aH w' gY (dj b.addr b.aff (.slice As b.slots.length cs) (.slice Ap b.free.length cp) (.slice Am M.length cm)) 62 ∧ aH w' gQ (aU nb.addr nb.aff nb.slots (.slice A8 nb.free.length c8) (.slice A9 nb.attrs.length c9)) 57) (ds := []) #[false, false, false, false, false, false, false, false, false, false, false, false, false, false, false, false] (by kernel_rfl) rfl rfl ⟨hX.out, hY.out, hQ.out⟩ (fun hHeld => ?_); refine bQ ue.tab9 ue.bits9 (fun ae bA => ?_)
 refine tk 0 ae.out bA.out hHeld ?_ (hv := by exact fun _ aZ => aQ 57 (.tmp 3) rfl gX rfl _ _ _ aZ.1 Try.underlying57 rfl HLB.out)
 refine tk 1 ae.out bA.out hHeld ?_ (hv := by exact fun _ aZ => aQ 62 (.tmp 4) rfl gY rfl _ _ _ aZ.2.1 Try.underlying62 rfl (by kernel_rfl))
 refine pu 2 ae.out ?_
 refine pu 3 ae.out ?_
 refine pu 4 ae.out ?_
 refine tk 5 ae.out bA.out hHeld ?_ (hv := by exact fun _ aZ => aQ 57 (.tmp 10) rfl gQ rfl _ _ _ aZ.2.2 Try.underlying57 rfl (HLN _ _ _ _))
 refine on 6 ae.out (fun K hK => ?_)
 refine gs Try.func43 #[.agg (aU nb.addr nb.aff nb.slots (.slice A8 nb.free.length c8) (.slice A9 nb.attrs.length c9)).toArray] (HZR.out _ _ ⟨_, _, _, _, rfl, ⟨HNL.out, (rr hC).1, (rr hC).2, (rr hD).1, (rr hD).2⟩⟩) ?_
 rintro e V6 ⟨rfl, I⟩
 refine ⟨_, rfl, ?_⟩
 replace hB := mv I hB; replace hF := mv I hF; replace hG := mv I hG; replace hS := mv I hS; replace hP := mv I hP; replace hM := mv I hM; replace hX := mv I hX; replace hY := mv I hY; replace hT := mv I hT; replace hZ := mv I hZ; replace hU := mv I hU; replace hQ := mv I hQ; replace hC := mv I hC; replace hD := mv I hD; replace hO := mv I hO
 refine kn hK ⟨hX.out, hY.out, hQ.out⟩ (fun hHeld => ?_)
 clear hK K
 refine pu 7 ae.out ?_
 refine pu 8 ae.out ?_
 refine pu 9 ae.out ?_
 refine pu 10 ae.out ?_
 refine pu 11 ae.out ?_
 refine pu 12 ae.out ?_
 refine ow 13 ae.out (fun K hK => ?_)
 refine bJ (by rfl) rfl 57 (.tmp 6) (.tmp 65) rfl gZ (aU b.addr b.aff b.slots (.slice Af b.free.length cf) (.slice Aa b.attrs.length ca)) rfl rfl 57 _ hZ.out 68 (by kernel_rfl) (ah _ _ _ _ _ HL.out) rfl (b7 _ _ _ _ _ rfl rfl) ?_
 intro X2 aa J; replace hB := gb hB cb J; replace hF := gr hF hZ J; replace hG := gr hG hZ J; replace hS := gr hS hZ J; replace hP := gr hP hZ J; replace hM := gr hM hZ J; replace hX := gn hX aG J; replace hY := gx hY hZ J; replace hT := gx hT hZ J; replace hU := gx hU hZ J; replace hQ := gm hQ a7 J; replace hC := gr hC hZ J; replace hD := gr hD hZ J; replace hO := gr hO hZ J; replace hZ := ak (aa); clear aa J
 refine hK.out _ _ ⟨hX.out, hY.out, hQ.out⟩ (fun hHeld => ?_)
 clear hK K
 refine ow 14 ae.out (fun K hK => ?_)
 refine bJ (by rfl) rfl 62 (.tmp 7) (.tmp 66) rfl gU (dj b.addr b.aff (.slice As b.slots.length cs) (.slice Ap b.free.length cp) (.slice Am M.length cm)) rfl rfl 62 _ hU.out 5 (by kernel_rfl) rfl rfl (dM _ _ rfl rfl rfl) ?_
 intro X1 aa J; replace hB := gb hB fG J; replace hF := gr hF hU J; replace hG := gr hG hU J; replace hS := gr hS hU J; replace hP := gr hP hU J; replace hM := gr hM hU J; replace hX := gx hX hU J; replace hY := gn hY dw J; replace hT := gx hT hU J; replace hZ := gx hZ hU J; replace hQ := gx hQ hU J; replace hC := gr hC hU J; replace hD := gr hD hU J; replace hO := gr hO hU J; replace hU := ak (aa); clear aa J
 refine hK.out _ _ ⟨hX.out, hY.out, hQ.out⟩ (fun hHeld => ?_)
 clear hK K
 refine pu 15 ae.out ?_
 refine dn ae.out ?_
 clear hHeld
 go_wp2_with fail
 refine bodyPost_ret (e6 rfl _ _ _ gZ gU 57 62 _ _ _ _ rfl hZ.out rfl Try.underlying57 (by first | exact HLB.out | exact HLN _ _ _ _) rfl hU.out rfl Try.underlying62 (by kernel_rfl)) rfl ⟨_, _, b, rfl, ?_, ?_, ?_, hB.out⟩
 ·exact HG.out
 ·exact ⟨HL.out, _, _, rfl, hF.out, hG.out⟩
 ·exact ⟨_, _, _, rfl, hS.out, hP.out, by rw [← HM.out]; exact hM.out⟩
set_option maxHeartbeats 16000000 in
set_option maxRecDepth 100000 in
theorem ND (b : Bk) (hg : RG b) (kd : Int) (hkd : kd = 0 ∨ kd = 1) (n : Int) (hn : n < 9223372036854775808) (a : ln) (eW : a.f0.size ≤ 9223372036854775807) (fA : a.f1.size ≤ 9223372036854775807) (l : List Int) (hu : ∀ x ∈ l, 0 ≤ x ∧ x < 4294967296) (hlm : l.length ≤ 9223372036854775807) (Al : Option Addr) (cl : Nat) (hcl : l.length ≤ cl) (aff : ByteArray) (hza : aff.size ≤ 9223372036854775807) (hma : ep (cv a) = true) (lT : n < 0) (v v2 : Value) (w : World) (base : Nat) (hbase : base ≤ w.heap.size) (hO : ey w base v b) (hR : eU w base v2 b) (hC : Kd.C (Kd.int .u32) w Al l.length l) :
  Calls Try.prog 47 #[v, v2, .agg #[.int .i64 kd, .int .i64 n, .string a.f0, .string a.f1, .slice Al l.length cl, .string aff]] w fun e w' => ∃ v1 v2 b', e = .returned (.tuple #[v1, v2, .bool true]) ∧ RG b' ∧ ey w' base v1 b' ∧ eU w' base v2 b' ∧ Below w.heap.size w w' := by
 obtain ⟨hl, vf, va, rfl, hf, ha⟩ := hO
 obtain ⟨vs, vp, vm, rfl, hs, hp, hm⟩ := hR
 obtain ⟨Af, cf, rfl⟩ := Kd.R_slice hf
 obtain ⟨Aa, ca, rfl⟩ := Kd.R_slice ha
 obtain ⟨As, cs, rfl⟩ := Kd.R_slice hs
 obtain ⟨Ap, cp, rfl⟩ := Kd.R_slice hp
 obtain ⟨M, hM⟩ : ∃ M, M = b.attrs.map vc := ⟨_, rfl⟩
 rw [← hM] at hm
 obtain ⟨Am, cm, rfl⟩ := Kd.R_slice hm
 have HL := ak hl
 have HM := ak hM
 have bw := ak hf
 have eh := ak ha
 have aV := ak hs
 have eo := ak hp
 have bS := ak hm
 have HG := ak hg
 have ag := ak (Below.refl w.heap.size w)
 have HBASE := ak hbase
 have HLB := ak (ch (aU b.addr b.aff b.slots (.slice Af b.free.length cf) (.slice Aa b.attrs.length ca)) (ah _ _ _ _ _ HL.out))
 obtain ⟨lt, hlt⟩ : ∃ lt, lt = l.take 80 := ⟨_, rfl⟩
 have hut : ∀ x ∈ lt, 0 ≤ x ∧ x < 4294967296 := fun x hx => hu x (by rw [hlt] at hx; exact List.mem_of_mem_take hx)
 have hll : lt.length = min 80 l.length := by rw [hlt, List.length_take]
 have HCL := ak hcl
 have HLL := ak hll
 have HC := ak hC
 have HCT := ak (fun W (I : Below w.heap.size w W) => (show Kd.C (Kd.int .u32) W Al lt.length lt by
  rcases Nat.lt_or_ge 80 l.length with h | h
  ·have h_ := Kd.C_take (m := 80) (Kd.C_below hC I) (by omega)
   rw [← hlt] at h_
   exact h_
  ·have h_ := Kd.C_below hC I
   have e : lt = l := by rw [hlt, List.take_of_length_le h]
   rw [e]
   exact h_))
 have hbl := fun v w h => vH b hg.ok n hn (cv a) v w h
 have hok : m3 b n (cv a) = false := by unfold m3; rw [hma, decide_eq_false (by omega)]; simp
 rw [hok] at hbl
 simp only [Bool.false_eq_true, if_false, if_true] at hbl
 have HMY := ak (fun w => rX a eW fA w)
 rw [hma] at HMY
 have n0 : decide (n < 0) = true := by simp; omega
 obtain ⟨nb, hnb⟩ : ∃ nb, nb = km := ⟨_, rfl⟩
 have hnl : km.slots.length = 64 := rfl
 rw [← hnb] at hbl hnl
 have HNB := ak hnb
 have HNL := ak hnl
 have HLN := fun A8 c8 A9 c9 => ch (aU nb.addr nb.aff nb.slots (.slice A8 nb.free.length c8) (.slice A9 nb.attrs.length c9)) (ah _ _ _ _ _ HNL.out)
 have HZR := ak (fun v w h => pO v w (by rw [← HNB.out]; exact h))
 obtain ⟨oo, hoo⟩ : ∃ oo : List Int, oo = [] := ⟨_, rfl⟩
 rw [← hoo] at hbl
 have o0 : decide ((oo.length : Int) = 0) = true := by rw [hoo]; rfl
 have o1 : ((oo.length : Int) == 0) = true := by rw [hoo]; rfl
 have o2 : ((oo.length : Int) = 0) = True := by rw [hoo]; simp
 have o3 : (oo.length = 0) = True := by rw [hoo]; simp
 have o4 : (oo = []) = True := eq_true hoo
 have HBL := ak hbl
 clear hbl hnb hnl hma hok hoo lT
 have HKD := ak hkd
 clear hkd
 clear hl hM hf ha hs hp hm hbase hC hu hut hll hcl hlt hg
 go_enter Try.func47, Try.ntmps47
 go_upto_if 37 with (first
  | (refine aD rfl 57 (.tmp 0) rfl _ rfl ?_; intro gX W1 J aa I; have cg := ge ag J; have ao := ak (ag.out.trans (I.mono ag.out.size)); have bp := mv I bw; have dk := mv I eh; have bb := mv I aV; have dg := mv I eo; have bN := mv I bS; have aj := ak (aa); clear J aa I ag bw eh aV eo bS)
  | (refine aD rfl 62 (.tmp 1) rfl _ rfl ?_; intro gY W2 J aa I; have j8 := ge ao J; have gC := ne aj J; have ay := mv I ao; have bX := mv I bp; have dG := mv I dk; have bK := mv I bb; have di := mv I dg; have cC := mv I bN; have aw := mv I aj; have cA := ak (aa); clear J aa I ao bp dk bb dg bN aj)
  | (refine aD rfl 79 (.tmp 2) rfl _ rfl ?_; intro gT W3 J aa I; have kE := ge ay J; have ie := ne aw J; have iI := ne cA J; have aE := mv I ay; have cy := mv I bX; have dU := mv I dG; have b6 := mv I bK; have dS := mv I di; have da := mv I cC; have aC := mv I aw; have cB := mv I cA; have dN := ak (aa); clear J aa I ay bX dG bK di cC aw cA)
  | (refine au (some 6) rfl rfl 57 rfl a6 bT ?_; intro gZ W4 J aa I; have cb := ge aE J; have aG := ne aC J; have gP := ne cB J; have jS := ne dN J; have a8 := mv I aE; have cx := mv I cy; have dF := mv I dU; have cw := mv I b6; have eb := mv I dS; have cR := mv I da; have aY := mv I aC; have b5 := mv I cB; have dR := mv I dN; have bd := ak (aa); clear J aa I aE cy dU b6 dS da aC cB dN)
  | (refine au (some 7) rfl rfl 62 rfl dH (fun _ => by kernel_rfl) ?_; intro gU W5 J aa I; have fG := ge a8 J; have gR := ne aY J; have dw := ne b5 J; have jT := ne dR J; have gO := ne bd J; have bj := mv I a8; have cj := mv I cx; have cW := mv I dF; have cQ := mv I cw; have ek := mv I eb; have cH := mv I cR; have bc := mv I aY; have cY := mv I b5; have bB := mv I dR; have bI := mv I bd; have eV := ak (aa); have jP := bB.out.cell 0 _ rfl; have ic := bB.out.cell 1 _ rfl; have jO := bB.out.cell 2 _ rfl; have jN := bB.out.cell 3 _ rfl; have jM := bB.out.cell 4 _ rfl; have gN := bB.out.cell 5 _ rfl; clear J aa I a8 cx dF cw eb cR aY b5 dR bd))
 go_cut [9] from 38 to 39 (fun s9 wx => s9 = .slice Al lt.length cl ∧ W5 = wx)
 case first =>
  rcases Nat.lt_or_ge 80 l.length with lY | lY
  ·have lX : decide ((80 : Int) < (l.length : Int)) = true := by simp; omega
   have we : (((0 : Int) ≤ 80 ∧ (80 : Int) ≤ (cl : Int)) = True) := eq_true ⟨by omega, by have := HCL.out; omega⟩
   have wb : (((80 : Int) ≤ (cl : Int)) = True) := eq_true (by have := HCL.out; omega)
   go_wp2_with fail
   go_meet
   exact ⟨by rw [HLL.out, Nat.min_eq_left (by omega)], rfl⟩
  ·have lX : decide ((80 : Int) < (l.length : Int)) = false := by simp; omega
   go_wp2_with fail
   go_meet
   exact ⟨by rw [HLL.out, Nat.min_eq_right (by omega)], rfl⟩
 case rest =>
 obtain ⟨gy, gw⟩ := hcut
 subst gy
 subst gw
 go_upto_if 42 with fail
 go_cut [42] from 43 to 44 (fun vv wx => vv = .bool true ∧ W5 = wx)
 case first =>
  rcases HKD.out with dc | dc
  ·skip
   have BC : (kd = 0) = True := eq_true (by omega)
   have Ht : decide (kd = 0) = true := by simp; omega
   have Hl : (kd == 0) = true := by simp; omega
   clear dc
   go_wp2_with fail
   go_meet
   exact ⟨by first | rfl | simp [BC], rfl⟩
  ·skip
   have BC : (kd = 0) = False := eq_false (by omega)
   have Ht : decide (kd = 0) = false := by simp; omega
   have Hl : (kd == 0) = false := by simp; omega
   have Hv : (kd = 1) = True := eq_true (by omega)
   have SF : decide (kd = 1) = true := by simp; omega
   have SC : (kd == 1) = true := by simp; omega
   clear dc
   go_wp2_with fail
   go_meet
   exact ⟨by first | rfl | simp [Hv], rfl⟩
 case rest =>
 obtain ⟨gy, gw⟩ := hcut
 subst gy
 subst gw
 go_wp2_with fail
 have al : Below W5.heap.size W5 W5.drew := br (Below.refl _ _)
 have bO := mv al bj; have cU := mv al cj; have dt := mv al cW; have cZ := mv al cQ; have er := mv al ek; have dE := mv al cH; have bl := mv al bc; have dh := mv al cY; have fy := mv al bB; have bW := mv al bI; have eg := mv al eV
 clear al bj cj cW cQ ek cH bc cY bB bI eV jP ic jO jN jM gN
 have hB := bO
 have hF := cU
 have hG := dt
 have hS := cZ
 have hP := er
 have hM := dE
 have hX := bl
 have hY := dh
 have hT := fy
 have hZ := bW
 have hU := eg
 clear bO cU dt cZ er dE bl dh fy bW eg
 refine dd (n := 15) (S := fun w' => aH w' gX (aU b.addr b.aff b.slots (.slice Af b.free.length cf) (.slice Aa b.attrs.length ca)) 57 ∧ aH w' gT [.int .i64 kd, .int .i64 n, .string a.f0, .string a.f1, .slice Al l.length cl, .string aff] 79) (ds := []) #[false, false, false, false, false, false, false, false, false, false, false, false, false, false, false] (by kernel_rfl) rfl rfl ⟨hX.out, hT.out⟩ (fun hHeld => ?_); refine bQ qC.tab7 qC.bits7 (fun ae bA => ?_)
 refine tk 0 ae.out bA.out hHeld ?_ (hv := by exact fun _ aZ => aQ 57 (.tmp 3) rfl gX rfl _ _ _ aZ.1 Try.underlying57 rfl HLB.out)
 refine pu 1 ae.out ?_
 refine tk 2 ae.out bA.out hHeld ?_ (hv := by intro w' aZ; have FG := aZ.2.cell 1 _ rfl; go_simp; with_reducible rfl)
 refine pu 3 ae.out ?_
 refine tk 4 ae.out bA.out hHeld ?_ (hv := by exact fun _ aZ => oN 76 (.tmp 49) rfl gT 2 rfl _ _ [.string a.f0, .string a.f1] _ aZ.2 wL Try.underlying76 rfl (by kernel_rfl))
 refine qS (σ := Nat × Value × Value) 3 #[true, true, true, true, true, true, true, true, true, true, true, true, false, false, false] (fun s => [(51, eT (cv a)), (52, .tuple #[s.2.1, s.2.2, .int .i64 1]), (45, .tuple #[s.2.1, s.2.2, .int .i64 1]), (53, s.2.1), (54, s.2.2), (55, .int .i64 1), (10, .pointer (some ⟨s.1, 0, none⟩))]) (fun s w' => Aside0 (Below w.heap.size w w') ∧ Aside0 (Kd.R (Kd.int .u8) 5 w' base (fun _ => True) (.slice Af b.free.length cf) b.free) ∧ Aside0 (Kd.R ju 85 w' base (fun _ => True) (.slice Aa b.attrs.length ca) b.attrs) ∧ Aside0 (Kd.R (Kd.int .i64) 3 w' base (fun _ => True) (.slice As b.slots.length cs) b.slots) ∧ Aside0 (Kd.R (Kd.int .i64) 3 w' base (fun _ => True) (.slice Ap b.free.length cp) b.free) ∧ Aside0 (Kd.R ib 76 w' base (fun _ => True) (.slice Am M.length cm) M) ∧ Aside0 (aH w' gX (aU b.addr b.aff b.slots (.slice Af b.free.length cf) (.slice Aa b.attrs.length ca)) 57) ∧ Aside0 (aH w' gY (dj b.addr b.aff (.slice As b.slots.length cs) (.slice Ap b.free.length cp) (.slice Am M.length cm)) 62) ∧ Aside0 (aH w' gT [.int .i64 kd, .int .i64 n, .string a.f0, .string a.f1, .slice Al l.length cl, .string aff] 79) ∧ Aside0 (aH w' gZ a6 57) ∧ Aside0 (aH w' gU dH 62) ∧ Aside0 (aH w' s.1 a6 57) ∧ Aside0 (w.heap.size ≤ s.1) ∧ Aside0 (gX ≠ s.1) ∧ Aside0 (gZ ≠ s.1) ∧ Aside0 (ey w' base s.2.1 nb) ∧ Aside0 (Kd.R (Kd.int .u32) 46 w' base (fun _ => True) s.2.2 oo)) ?_ ?_
 rotate_left
 ·intro eF
  refine tw 5 11 ae.out (fun K hK => ?_) (fun K hK => ?_)
  ·skip
   refine gs Try.func50 #[.agg #[.string a.f0, .string a.f1]] (kX a _) ?_
   rintro e V5 ⟨rfl, I⟩
   refine ⟨_, rfl, ?_⟩
   (try replace hV := mv I hV); (try replace dr := mv I dr); (try replace hQ := mv I hQ); replace hB := mv I hB; replace hF := mv I hF; replace hG := mv I hG; replace hS := mv I hS; replace hP := mv I hP; replace hM := mv I hM; replace hX := mv I hX; replace hY := mv I hY; replace hT := mv I hT; replace hZ := mv I hZ; replace hU := mv I hU; clear  I
   refine kn hK ⟨hX.out, hT.out⟩ (fun hHeld => ?_)
   clear hK K
   refine tw 6 11 ae.out (fun K hK => ?_) (fun K hK => ?_)
   ·skip
    refine gs Try.func49 #[.agg (aU b.addr b.aff b.slots (.slice Af b.free.length cf) (.slice Aa b.attrs.length ca)).toArray, .int .i64 n, eT (cv a)] (HBL.out _ _ ⟨_, _, _, _, rfl, ⟨HL.out, (rr hF).1, (rr hF).2, (rr hG).1, (rr hG).2⟩⟩) ?_
    rintro e V6 ⟨v_, mE, rfl, aW, fR, I⟩
    refine ⟨_, rfl, ?_⟩
    have hV := ak (aW.lower (lb HBASE hB)); have dr := ak (Kd.R_lower fR (lb HBASE hB)); (try replace hQ := mv I hQ); replace hB := mv I hB; replace hF := mv I hF; replace hG := mv I hG; replace hS := mv I hS; replace hP := mv I hP; replace hM := mv I hM; replace hX := mv I hX; replace hY := mv I hY; replace hT := mv I hT; replace hZ := mv I hZ; replace hU := mv I hU; clear aW fR I
    refine kn hK ⟨hX.out, hT.out⟩ (fun hHeld => ?_)
    clear hK K
    refine pu 7 ae.out ?_
    refine pu 8 ae.out ?_
    refine pu 9 ae.out ?_
    refine pu 10 ae.out ?_
    refine on 11 ae.out (fun K hK => ?_)
    refine dO (by rfl) 57 rfl a6 bT ?_
    intro gQ qx J aa I
    have cE := ge hB J
    have bk := ne hX J
    have a7 := ne hZ J
    (try replace hV := mv I hV)
    (try replace dr := mv I dr)
    replace hB := mv I hB
    replace hF := mv I hF
    replace hG := mv I hG
    replace hS := mv I hS
    replace hP := mv I hP
    replace hM := mv I hM
    replace hX := mv I hX
    replace hY := mv I hY
    replace hT := mv I hT
    replace hZ := mv I hZ
    replace hU := mv I hU
    have hQ := ak aa
    clear J aa I
    refine kn hK ⟨hX.out, hT.out⟩ (fun hHeld => ?_)
    clear hK K
    exact nc (eF ⟨gQ, v_, mE⟩ _ ⟨hB, hF, hG, hS, hP, hM, hX, hY, hT, hZ, hU, hQ, cE, bk, a7, hV, dr⟩)
   ·skip
    refine dO (by rfl) 57 rfl a6 bT ?_
    intro gQ qx J aa I
    have cE := ge hB J
    have bk := ne hX J
    have a7 := ne hZ J
    (try replace hV := mv I hV)
    (try replace dr := mv I dr)
    replace hB := mv I hB
    replace hF := mv I hF
    replace hG := mv I hG
    replace hS := mv I hS
    replace hP := mv I hP
    replace hM := mv I hM
    replace hX := mv I hX
    replace hY := mv I hY
    replace hT := mv I hT
    replace hZ := mv I hZ
    replace hU := mv I hU
    have hQ := ak aa
    clear J aa I
    refine kn hK ⟨hX.out, hT.out⟩ (fun hHeld => ?_)
    clear hK K
    refine on 6 ae.out (fun K hK => ?_)
    refine gs Try.func49 #[.agg (aU b.addr b.aff b.slots (.slice Af b.free.length cf) (.slice Aa b.attrs.length ca)).toArray, .int .i64 n, eT (cv a)] (HBL.out _ _ ⟨_, _, _, _, rfl, ⟨HL.out, (rr hF).1, (rr hF).2, (rr hG).1, (rr hG).2⟩⟩) ?_
    rintro e V6 ⟨v_, mE, rfl, aW, fR, I⟩
    refine ⟨_, rfl, ?_⟩
    have hV := ak (aW.lower (lb HBASE hB)); have dr := ak (Kd.R_lower fR (lb HBASE hB)); (try replace hQ := mv I hQ); replace hB := mv I hB; replace hF := mv I hF; replace hG := mv I hG; replace hS := mv I hS; replace hP := mv I hP; replace hM := mv I hM; replace hX := mv I hX; replace hY := mv I hY; replace hT := mv I hT; replace hZ := mv I hZ; replace hU := mv I hU; clear aW fR I
    refine kn hK ⟨hX.out, hT.out⟩ (fun hHeld => ?_)
    clear hK K
    refine pu 7 ae.out ?_
    refine pu 8 ae.out ?_
    refine pu 9 ae.out ?_
    refine pu 10 ae.out ?_
    exact nc (eF ⟨gQ, v_, mE⟩ _ ⟨hB, hF, hG, hS, hP, hM, hX, hY, hT, hZ, hU, hQ, cE, bk, a7, hV, dr⟩)
  ·skip
   refine dO (by rfl) 57 rfl a6 bT ?_
   intro gQ qx J aa I
   have cE := ge hB J
   have bk := ne hX J
   have a7 := ne hZ J
   (try replace hV := mv I hV)
   (try replace dr := mv I dr)
   replace hB := mv I hB
   replace hF := mv I hF
   replace hG := mv I hG
   replace hS := mv I hS
   replace hP := mv I hP
   replace hM := mv I hM
   replace hX := mv I hX
   replace hY := mv I hY
   replace hT := mv I hT
   replace hZ := mv I hZ
   replace hU := mv I hU
   have hQ := ak aa
   clear J aa I
   refine kn hK ⟨hX.out, hT.out⟩ (fun hHeld => ?_)
   clear hK K
   refine on 5 ae.out (fun K hK => ?_)
   refine gs Try.func50 #[.agg #[.string a.f0, .string a.f1]] (kX a _) ?_
   rintro e V5 ⟨rfl, I⟩
   refine ⟨_, rfl, ?_⟩
   (try replace hV := mv I hV); (try replace dr := mv I dr); (try replace hQ := mv I hQ); replace hB := mv I hB; replace hF := mv I hF; replace hG := mv I hG; replace hS := mv I hS; replace hP := mv I hP; replace hM := mv I hM; replace hX := mv I hX; replace hY := mv I hY; replace hT := mv I hT; replace hZ := mv I hZ; replace hU := mv I hU; clear  I
   refine kn hK ⟨hX.out, hT.out⟩ (fun hHeld => ?_)
   clear hK K
   refine on 6 ae.out (fun K hK => ?_)
   refine gs Try.func49 #[.agg (aU b.addr b.aff b.slots (.slice Af b.free.length cf) (.slice Aa b.attrs.length ca)).toArray, .int .i64 n, eT (cv a)] (HBL.out _ _ ⟨_, _, _, _, rfl, ⟨HL.out, (rr hF).1, (rr hF).2, (rr hG).1, (rr hG).2⟩⟩) ?_
   rintro e V6 ⟨v_, mE, rfl, aW, fR, I⟩
   refine ⟨_, rfl, ?_⟩
   have hV := ak (aW.lower (lb HBASE hB)); have dr := ak (Kd.R_lower fR (lb HBASE hB)); (try replace hQ := mv I hQ); replace hB := mv I hB; replace hF := mv I hF; replace hG := mv I hG; replace hS := mv I hS; replace hP := mv I hP; replace hM := mv I hM; replace hX := mv I hX; replace hY := mv I hY; replace hT := mv I hT; replace hZ := mv I hZ; replace hU := mv I hU; clear aW fR I
   refine kn hK ⟨hX.out, hT.out⟩ (fun hHeld => ?_)
   clear hK K
   refine pu 7 ae.out ?_
   refine pu 8 ae.out ?_
   refine pu 9 ae.out ?_
   refine pu 10 ae.out ?_
   exact nc (eF ⟨gQ, v_, mE⟩ _ ⟨hB, hF, hG, hS, hP, hM, hX, hY, hT, hZ, hU, hQ, cE, bk, a7, hV, dr⟩)
 intro s w' hFF; obtain ⟨gQ, v_, mE⟩ := s; simp only at hFF; obtain ⟨hB, hF, hG, hS, hP, hM, hX, hY, hT, hZ, hU, hQ, cE, bk, a7, hV, dr⟩ := hFF; have aW := hV.out; obtain ⟨kS, sw, sy, rfl, dQ, eE⟩ := aW; obtain ⟨A8, c8, rfl⟩ := Kd.R_slice dQ; obtain ⟨A9, c9, rfl⟩ := Kd.R_slice eE; obtain ⟨Ao, co, rfl⟩ := Kd.R_slice dr.out; have hC := ak dQ; have hD := ak eE; have hO := dr; clear hV dr kS dQ eE
 refine nj ?_
 refine ow 12 ae.out (fun K hK => ?_)
 refine bJ (by rfl) rfl 57 (.tmp 10) (.tmp 53) rfl gQ (aU nb.addr nb.aff nb.slots (.slice A8 nb.free.length c8) (.slice A9 nb.attrs.length c9)) rfl rfl 57 _ hQ.out 68 (by kernel_rfl) (ah _ _ _ _ _ HNL.out) rfl (b7 _ _ _ _ _ rfl rfl) ?_
 intro PY aa J; replace hB := gb hB cE J; replace hF := gr hF hQ J; replace hG := gr hG hQ J; replace hS := gr hS hQ J; replace hP := gr hP hQ J; replace hM := gr hM hQ J; replace hX := gn hX bk J; replace hY := gx hY hQ J; replace hT := gx hT hQ J; replace hZ := gn hZ a7 J; replace hU := gx hU hQ J; replace hC := gr hC hQ J; replace hD := gr hD hQ J; replace hO := gr hO hQ J; replace hQ := ak (aa); clear aa J
 refine hK.out _ _ ⟨hX.out, hT.out⟩ (fun hHeld => ?_)
 clear hK K
 refine pu 13 ae.out ?_
 refine pu 14 ae.out ?_
 refine dn ae.out ?_
 clear hHeld
 have ic := hT.out.cell 1 _ rfl
 go_wp2_with (first
  | ((with_reducible refine av (N := 57) rfl ?_); refine fH rfl 76 (.tmp 56) rfl gT 2 rfl 79 _ [.string a.f0, .string a.f1] _ hT.out wL Try.underlying76 rfl (by kernel_rfl) ?_)
  | (go_at_call 60; refine (HMY.out _).mono ?_; rintro e so ⟨rfl, I⟩; have iZ := mv I hB; have jF := mv I hF; have jD := mv I hG; have iB := mv I hS; have iC := mv I hP; have iD := mv I hM; have jz := mv I hX; have iA := mv I hY; have nS := mv I hT; have jy := mv I hZ; have jA := mv I hU; have jB := mv I hQ; have jJ := mv I hC; have jH := mv I hD; have tB := mv I hO; have Dl := nS.out.cell 1 _ rfl; clear I hB hF hG hS hP hM hX hY hT hZ hU hQ hC hD hO ic))
 clear Dl
 have al : Below so.heap.size so so.drew := br (Below.refl _ _)
 have jn := mv al iZ; have jE := mv al jF; have jC := mv al jD; have iW := mv al iB; have iX := mv al iC; have iY := mv al iD; have ji := mv al jz; have iJ := mv al iA; have rb := mv al nS; have jh := mv al jy; have jl := mv al jA; have jm := mv al jB; have jI := mv al jJ; have jG := mv al jH; have tA := mv al tB
 clear al iZ jF jD iB iC iD jz iA nS jy jA jB jJ jH tB
 have hB := jn
 have hF := jE
 have hG := jC
 have hS := iW
 have hP := iX
 have hM := iY
 have hX := ji
 have hY := iJ
 have hT := rb
 have hZ := jh
 have hU := jl
 have hQ := jm
 have hC := jI
 have hD := jG
 have hO := tA
 clear jn jE jC iW iX iY ji iJ rb jh jl jm jI jG tA
 refine dd (n := 16) (S := fun w' => aH w' gX (aU b.addr b.aff b.slots (.slice Af b.free.length cf) (.slice Aa b.attrs.length ca)) 57 ∧ aH w' gY (dj b.addr b.aff (.slice As b.slots.length cs) (.slice Ap b.free.length cp) (.slice Am M.length cm)) 62 ∧ aH w' gQ (aU nb.addr nb.aff nb.slots (.slice A8 nb.free.length c8) (.slice A9 nb.attrs.length c9)) 57) (ds := []) #[false, false, false, false, false, false, false, false, false, false, false, false, false, false, false, false] (by kernel_rfl) rfl rfl ⟨hX.out, hY.out, hQ.out⟩ (fun hHeld => ?_); refine bQ ue.tab9 ue.bits9 (fun ae bA => ?_)
 refine tk 0 ae.out bA.out hHeld ?_ (hv := by exact fun _ aZ => aQ 57 (.tmp 3) rfl gX rfl _ _ _ aZ.1 Try.underlying57 rfl HLB.out)
 refine tk 1 ae.out bA.out hHeld ?_ (hv := by exact fun _ aZ => aQ 62 (.tmp 4) rfl gY rfl _ _ _ aZ.2.1 Try.underlying62 rfl (by kernel_rfl))
 refine pu 2 ae.out ?_
 refine pu 3 ae.out ?_
 refine pu 4 ae.out ?_
 refine tk 5 ae.out bA.out hHeld ?_ (hv := by exact fun _ aZ => aQ 57 (.tmp 10) rfl gQ rfl _ _ _ aZ.2.2 Try.underlying57 rfl (HLN _ _ _ _))
 refine on 6 ae.out (fun K hK => ?_)
 refine gs Try.func43 #[.agg (aU nb.addr nb.aff nb.slots (.slice A8 nb.free.length c8) (.slice A9 nb.attrs.length c9)).toArray] (HZR.out _ _ ⟨_, _, _, _, rfl, ⟨HNL.out, (rr hC).1, (rr hC).2, (rr hD).1, (rr hD).2⟩⟩) ?_
 rintro e V6 ⟨rfl, I⟩
 refine ⟨_, rfl, ?_⟩
 replace hB := mv I hB; replace hF := mv I hF; replace hG := mv I hG; replace hS := mv I hS; replace hP := mv I hP; replace hM := mv I hM; replace hX := mv I hX; replace hY := mv I hY; replace hT := mv I hT; replace hZ := mv I hZ; replace hU := mv I hU; replace hQ := mv I hQ; replace hC := mv I hC; replace hD := mv I hD; replace hO := mv I hO
 refine kn hK ⟨hX.out, hY.out, hQ.out⟩ (fun hHeld => ?_)
 clear hK K
 refine pu 7 ae.out ?_
 refine pu 8 ae.out ?_
 refine pu 9 ae.out ?_
 refine pu 10 ae.out ?_
 refine pu 11 ae.out ?_
 refine pu 12 ae.out ?_
 refine ow 13 ae.out (fun K hK => ?_)
 refine bJ (by rfl) rfl 57 (.tmp 6) (.tmp 65) rfl gZ (aU b.addr b.aff b.slots (.slice Af b.free.length cf) (.slice Aa b.attrs.length ca)) rfl rfl 57 _ hZ.out 68 (by kernel_rfl) (ah _ _ _ _ _ HL.out) rfl (b7 _ _ _ _ _ rfl rfl) ?_
 intro X2 aa J; replace hB := gb hB cb J; replace hF := gr hF hZ J; replace hG := gr hG hZ J; replace hS := gr hS hZ J; replace hP := gr hP hZ J; replace hM := gr hM hZ J; replace hX := gn hX aG J; replace hY := gx hY hZ J; replace hT := gx hT hZ J; replace hU := gx hU hZ J; replace hQ := gm hQ a7 J; replace hC := gr hC hZ J; replace hD := gr hD hZ J; replace hO := gr hO hZ J; replace hZ := ak (aa); clear aa J
 refine hK.out _ _ ⟨hX.out, hY.out, hQ.out⟩ (fun hHeld => ?_)
 clear hK K
 refine ow 14 ae.out (fun K hK => ?_)
 refine bJ (by rfl) rfl 62 (.tmp 7) (.tmp 66) rfl gU (dj b.addr b.aff (.slice As b.slots.length cs) (.slice Ap b.free.length cp) (.slice Am M.length cm)) rfl rfl 62 _ hU.out 5 (by kernel_rfl) rfl rfl (dM _ _ rfl rfl rfl) ?_
 intro X1 aa J; replace hB := gb hB fG J; replace hF := gr hF hU J; replace hG := gr hG hU J; replace hS := gr hS hU J; replace hP := gr hP hU J; replace hM := gr hM hU J; replace hX := gx hX hU J; replace hY := gn hY dw J; replace hT := gx hT hU J; replace hZ := gx hZ hU J; replace hQ := gx hQ hU J; replace hC := gr hC hU J; replace hD := gr hD hU J; replace hO := gr hO hU J; replace hU := ak (aa); clear aa J
 refine hK.out _ _ ⟨hX.out, hY.out, hQ.out⟩ (fun hHeld => ?_)
 clear hK K
 refine pu 15 ae.out ?_
 refine dn ae.out ?_
 clear hHeld
 go_wp2_with fail
 refine bodyPost_ret (e6 rfl _ _ _ gZ gU 57 62 _ _ _ _ rfl hZ.out rfl Try.underlying57 (by first | exact HLB.out | exact HLN _ _ _ _) rfl hU.out rfl Try.underlying62 (by kernel_rfl)) rfl ⟨_, _, b, rfl, ?_, ?_, ?_, hB.out⟩
 ·exact HG.out
 ·exact ⟨HL.out, _, _, rfl, hF.out, hG.out⟩
 ·exact ⟨_, _, _, rfl, hS.out, hP.out, by rw [← HM.out]; exact hM.out⟩
set_option maxHeartbeats 16000000 in
set_option maxRecDepth 100000 in
theorem PG (b : Bk) (hg : RG b) (kd : Int) (hkd : kd = 0 ∨ kd = 1) (n : Int) (hn : n < 9223372036854775808) (a : ln) (eW : a.f0.size ≤ 9223372036854775807) (fA : a.f1.size ≤ 9223372036854775807) (l : List Int) (hu : ∀ x ∈ l, 0 ≤ x ∧ x < 4294967296) (hlm : l.length ≤ 9223372036854775807) (Al : Option Addr) (cl : Nat) (hcl : l.length ≤ cl) (aff : ByteArray) (hza : aff.size ≤ 9223372036854775807) (hma : ep (cv a) = true) (lT : 0 ≤ n) (v v2 : Value) (w : World) (base : Nat) (hbase : base ≤ w.heap.size) (hO : ey w base v b) (hR : eU w base v2 b) (hC : Kd.C (Kd.int .u32) w Al l.length l) :
  Calls Try.prog 47 #[v, v2, .agg #[.int .i64 kd, .int .i64 n, .string a.f0, .string a.f1, .slice Al l.length cl, .string aff]] w fun e w' => ∃ v1 v2 b', e = .returned (.tuple #[v1, v2, .bool true]) ∧ RG b' ∧ ey w' base v1 b' ∧ eU w' base v2 b' ∧ Below w.heap.size w w' := by
 obtain ⟨hl, vf, va, rfl, hf, ha⟩ := hO
 obtain ⟨vs, vp, vm, rfl, hs, hp, hm⟩ := hR
 obtain ⟨Af, cf, rfl⟩ := Kd.R_slice hf
 obtain ⟨Aa, ca, rfl⟩ := Kd.R_slice ha
 obtain ⟨As, cs, rfl⟩ := Kd.R_slice hs
 obtain ⟨Ap, cp, rfl⟩ := Kd.R_slice hp
 obtain ⟨M, hM⟩ : ∃ M, M = b.attrs.map vc := ⟨_, rfl⟩
 rw [← hM] at hm
 obtain ⟨Am, cm, rfl⟩ := Kd.R_slice hm
 have HL := ak hl
 have HM := ak hM
 have bw := ak hf
 have eh := ak ha
 have aV := ak hs
 have eo := ak hp
 have bS := ak hm
 have HG := ak hg
 have ag := ak (Below.refl w.heap.size w)
 have HBASE := ak hbase
 have HLB := ak (ch (aU b.addr b.aff b.slots (.slice Af b.free.length cf) (.slice Aa b.attrs.length ca)) (ah _ _ _ _ _ HL.out))
 obtain ⟨lt, hlt⟩ : ∃ lt, lt = l.take 80 := ⟨_, rfl⟩
 have hut : ∀ x ∈ lt, 0 ≤ x ∧ x < 4294967296 := fun x hx => hu x (by rw [hlt] at hx; exact List.mem_of_mem_take hx)
 have hll : lt.length = min 80 l.length := by rw [hlt, List.length_take]
 have HCL := ak hcl
 have HLL := ak hll
 have HC := ak hC
 have HCT := ak (fun W (I : Below w.heap.size w W) => (show Kd.C (Kd.int .u32) W Al lt.length lt by
  rcases Nat.lt_or_ge 80 l.length with h | h
  ·have h_ := Kd.C_take (m := 80) (Kd.C_below hC I) (by omega)
   rw [← hlt] at h_
   exact h_
  ·have h_ := Kd.C_below hC I
   have e : lt = l := by rw [hlt, List.take_of_length_le h]
   rw [e]
   exact h_))
 have hbl := fun v w h => vH b hg.ok n hn (cv a) v w h
 have hok : m3 b n (cv a) = true := by unfold m3; rw [hma, hg.right, decide_eq_true lT]; rfl
 rw [hok] at hbl
 simp only [if_true] at hbl
 have HMY := ak (fun w => rX a eW fA w)
 rw [hma] at HMY
 have n0 : decide (n < 0) = false := by simp; omega
 have hp := im hg.right
 have hrl := fun v w h0 h => EV b hg.ok hp hl n hn lT (min n.toNat b.free.length) rfl (cv a) v w base h0 h
 have hrg := hg.asg (cv a) hma (min n.toNat b.free.length) (Nat.min_le_right _ _)
 obtain ⟨nb, hnb⟩ : ∃ nb, nb = fq b (min n.toNat b.free.length) (cv a) := ⟨_, rfl⟩
 obtain ⟨oo, hoo⟩ : ∃ oo, oo = fJ b (min n.toNat b.free.length) := ⟨_, rfl⟩
 rw [← hnb, ← hoo] at hbl hrl
 rw [← hnb] at hrg
 have hol : oo.length ≤ 1000 := by rw [hoo]; rw [iU _ _ (Nat.min_le_right _ _)]; have := hg.sum; omega
 have HRG := ak hrg
 have HNL := ak hrg.l64
 have HOL := ak hol
 have HLN := fun A8 c8 A9 c9 => ch (aU nb.addr nb.aff nb.slots (.slice A8 nb.free.length c8) (.slice A9 nb.attrs.length c9)) (ah _ _ _ _ _ HNL.out)
 have HBL := ak hbl
 have HRL := ak hrl
 clear hrg hbl hrl hol hnb hoo hp hma hok lT
 have HKD := ak hkd
 clear hkd
 clear hl hM hf ha hs hp hm hbase hC hu hut hll hcl hlt hg
 go_enter Try.func47, Try.ntmps47
 go_upto_if 37 with (first
  | (refine aD rfl 57 (.tmp 0) rfl _ rfl ?_; intro gX W1 J aa I; have cg := ge ag J; have ao := ak (ag.out.trans (I.mono ag.out.size)); have bp := mv I bw; have dk := mv I eh; have bb := mv I aV; have dg := mv I eo; have bN := mv I bS; have aj := ak (aa); clear J aa I ag bw eh aV eo bS)
  | (refine aD rfl 62 (.tmp 1) rfl _ rfl ?_; intro gY W2 J aa I; have j8 := ge ao J; have gC := ne aj J; have ay := mv I ao; have bX := mv I bp; have dG := mv I dk; have bK := mv I bb; have di := mv I dg; have cC := mv I bN; have aw := mv I aj; have cA := ak (aa); clear J aa I ao bp dk bb dg bN aj)
  | (refine aD rfl 79 (.tmp 2) rfl _ rfl ?_; intro gT W3 J aa I; have kE := ge ay J; have ie := ne aw J; have iI := ne cA J; have aE := mv I ay; have cy := mv I bX; have dU := mv I dG; have b6 := mv I bK; have dS := mv I di; have da := mv I cC; have aC := mv I aw; have cB := mv I cA; have dN := ak (aa); clear J aa I ay bX dG bK di cC aw cA)
  | (refine au (some 6) rfl rfl 57 rfl a6 bT ?_; intro gZ W4 J aa I; have cb := ge aE J; have aG := ne aC J; have gP := ne cB J; have jS := ne dN J; have a8 := mv I aE; have cx := mv I cy; have dF := mv I dU; have cw := mv I b6; have eb := mv I dS; have cR := mv I da; have aY := mv I aC; have b5 := mv I cB; have dR := mv I dN; have bd := ak (aa); clear J aa I aE cy dU b6 dS da aC cB dN)
  | (refine au (some 7) rfl rfl 62 rfl dH (fun _ => by kernel_rfl) ?_; intro gU W5 J aa I; have fG := ge a8 J; have gR := ne aY J; have dw := ne b5 J; have jT := ne dR J; have gO := ne bd J; have bj := mv I a8; have cj := mv I cx; have cW := mv I dF; have cQ := mv I cw; have ek := mv I eb; have cH := mv I cR; have bc := mv I aY; have cY := mv I b5; have bB := mv I dR; have bI := mv I bd; have eV := ak (aa); have jP := bB.out.cell 0 _ rfl; have ic := bB.out.cell 1 _ rfl; have jO := bB.out.cell 2 _ rfl; have jN := bB.out.cell 3 _ rfl; have jM := bB.out.cell 4 _ rfl; have gN := bB.out.cell 5 _ rfl; clear J aa I a8 cx dF cw eb cR aY b5 dR bd))
 go_cut [9] from 38 to 39 (fun s9 wx => s9 = .slice Al lt.length cl ∧ W5 = wx)
 case first =>
  rcases Nat.lt_or_ge 80 l.length with lY | lY
  ·have lX : decide ((80 : Int) < (l.length : Int)) = true := by simp; omega
   have we : (((0 : Int) ≤ 80 ∧ (80 : Int) ≤ (cl : Int)) = True) := eq_true ⟨by omega, by have := HCL.out; omega⟩
   have wb : (((80 : Int) ≤ (cl : Int)) = True) := eq_true (by have := HCL.out; omega)
   go_wp2_with fail
   go_meet
   exact ⟨by rw [HLL.out, Nat.min_eq_left (by omega)], rfl⟩
  ·have lX : decide ((80 : Int) < (l.length : Int)) = false := by simp; omega
   go_wp2_with fail
   go_meet
   exact ⟨by rw [HLL.out, Nat.min_eq_right (by omega)], rfl⟩
 case rest =>
 obtain ⟨gy, gw⟩ := hcut
 subst gy
 subst gw
 go_upto_if 42 with fail
 go_cut [42] from 43 to 44 (fun vv wx => vv = .bool true ∧ W5 = wx)
 case first =>
  rcases HKD.out with dc | dc
  ·skip
   have BC : (kd = 0) = True := eq_true (by omega)
   have Ht : decide (kd = 0) = true := by simp; omega
   have Hl : (kd == 0) = true := by simp; omega
   clear dc
   go_wp2_with fail
   go_meet
   exact ⟨by first | rfl | simp [BC], rfl⟩
  ·skip
   have BC : (kd = 0) = False := eq_false (by omega)
   have Ht : decide (kd = 0) = false := by simp; omega
   have Hl : (kd == 0) = false := by simp; omega
   have Hv : (kd = 1) = True := eq_true (by omega)
   have SF : decide (kd = 1) = true := by simp; omega
   have SC : (kd == 1) = true := by simp; omega
   clear dc
   go_wp2_with fail
   go_meet
   exact ⟨by first | rfl | simp [Hv], rfl⟩
 case rest =>
 obtain ⟨gy, gw⟩ := hcut
 subst gy
 subst gw
 go_wp2_with fail
 have al : Below W5.heap.size W5 W5.drew := br (Below.refl _ _)
 have bO := mv al bj; have cU := mv al cj; have dt := mv al cW; have cZ := mv al cQ; have er := mv al ek; have dE := mv al cH; have bl := mv al bc; have dh := mv al cY; have fy := mv al bB; have bW := mv al bI; have eg := mv al eV
 clear al bj cj cW cQ ek cH bc cY bB bI eV jP ic jO jN jM gN
 have hB := bO
 have hF := cU
 have hG := dt
 have hS := cZ
 have hP := er
 have hM := dE
 have hX := bl
 have hY := dh
 have hT := fy
 have hZ := bW
 have hU := eg
 clear bO cU dt cZ er dE bl dh fy bW eg
 refine dd (n := 15) (S := fun w' => aH w' gX (aU b.addr b.aff b.slots (.slice Af b.free.length cf) (.slice Aa b.attrs.length ca)) 57 ∧ aH w' gT [.int .i64 kd, .int .i64 n, .string a.f0, .string a.f1, .slice Al l.length cl, .string aff] 79) (ds := []) #[false, false, false, false, false, false, false, false, false, false, false, false, false, false, false] (by kernel_rfl) rfl rfl ⟨hX.out, hT.out⟩ (fun hHeld => ?_); refine bQ qC.tab7 qC.bits7 (fun ae bA => ?_)
 refine tk 0 ae.out bA.out hHeld ?_ (hv := by exact fun _ aZ => aQ 57 (.tmp 3) rfl gX rfl _ _ _ aZ.1 Try.underlying57 rfl HLB.out)
 refine pu 1 ae.out ?_
 refine tk 2 ae.out bA.out hHeld ?_ (hv := by intro w' aZ; have FG := aZ.2.cell 1 _ rfl; go_simp; with_reducible rfl)
 refine pu 3 ae.out ?_
 refine tk 4 ae.out bA.out hHeld ?_ (hv := by exact fun _ aZ => oN 76 (.tmp 49) rfl gT 2 rfl _ _ [.string a.f0, .string a.f1] _ aZ.2 wL Try.underlying76 rfl (by kernel_rfl))
 refine qS (σ := Nat × Value × Value) 3 #[true, true, true, true, true, true, true, true, true, true, true, true, false, false, false] (fun s => [(51, eT (cv a)), (52, .tuple #[s.2.1, s.2.2, .int .i64 0]), (45, .tuple #[s.2.1, s.2.2, .int .i64 0]), (53, s.2.1), (54, s.2.2), (55, .int .i64 0), (10, .pointer (some ⟨s.1, 0, none⟩))]) (fun s w' => Aside0 (Below w.heap.size w w') ∧ Aside0 (Kd.R (Kd.int .u8) 5 w' base (fun _ => True) (.slice Af b.free.length cf) b.free) ∧ Aside0 (Kd.R ju 85 w' base (fun _ => True) (.slice Aa b.attrs.length ca) b.attrs) ∧ Aside0 (Kd.R (Kd.int .i64) 3 w' base (fun _ => True) (.slice As b.slots.length cs) b.slots) ∧ Aside0 (Kd.R (Kd.int .i64) 3 w' base (fun _ => True) (.slice Ap b.free.length cp) b.free) ∧ Aside0 (Kd.R ib 76 w' base (fun _ => True) (.slice Am M.length cm) M) ∧ Aside0 (aH w' gX (aU b.addr b.aff b.slots (.slice Af b.free.length cf) (.slice Aa b.attrs.length ca)) 57) ∧ Aside0 (aH w' gY (dj b.addr b.aff (.slice As b.slots.length cs) (.slice Ap b.free.length cp) (.slice Am M.length cm)) 62) ∧ Aside0 (aH w' gT [.int .i64 kd, .int .i64 n, .string a.f0, .string a.f1, .slice Al l.length cl, .string aff] 79) ∧ Aside0 (aH w' gZ a6 57) ∧ Aside0 (aH w' gU dH 62) ∧ Aside0 (aH w' s.1 a6 57) ∧ Aside0 (w.heap.size ≤ s.1) ∧ Aside0 (gX ≠ s.1) ∧ Aside0 (gZ ≠ s.1) ∧ Aside0 (ey w' base s.2.1 nb) ∧ Aside0 (Kd.R (Kd.int .u32) 46 w' base (fun _ => True) s.2.2 oo)) ?_ ?_
 rotate_left
 ·intro eF
  refine tw 5 11 ae.out (fun K hK => ?_) (fun K hK => ?_)
  ·skip
   refine gs Try.func50 #[.agg #[.string a.f0, .string a.f1]] (kX a _) ?_
   rintro e V5 ⟨rfl, I⟩
   refine ⟨_, rfl, ?_⟩
   (try replace hV := mv I hV); (try replace dr := mv I dr); (try replace hQ := mv I hQ); replace hB := mv I hB; replace hF := mv I hF; replace hG := mv I hG; replace hS := mv I hS; replace hP := mv I hP; replace hM := mv I hM; replace hX := mv I hX; replace hY := mv I hY; replace hT := mv I hT; replace hZ := mv I hZ; replace hU := mv I hU; clear  I
   refine kn hK ⟨hX.out, hT.out⟩ (fun hHeld => ?_)
   clear hK K
   refine tw 6 11 ae.out (fun K hK => ?_) (fun K hK => ?_)
   ·skip
    refine gs Try.func49 #[.agg (aU b.addr b.aff b.slots (.slice Af b.free.length cf) (.slice Aa b.attrs.length ca)).toArray, .int .i64 n, eT (cv a)] (HBL.out _ _ ⟨_, _, _, _, rfl, ⟨HL.out, (rr hF).1, (rr hF).2, (rr hG).1, (rr hG).2⟩⟩) ?_
    rintro e V6 ⟨v_, mE, rfl, aW, fR, I⟩
    refine ⟨_, rfl, ?_⟩
    have hV := ak (aW.lower (lb HBASE hB)); have dr := ak (Kd.R_lower fR (lb HBASE hB)); (try replace hQ := mv I hQ); replace hB := mv I hB; replace hF := mv I hF; replace hG := mv I hG; replace hS := mv I hS; replace hP := mv I hP; replace hM := mv I hM; replace hX := mv I hX; replace hY := mv I hY; replace hT := mv I hT; replace hZ := mv I hZ; replace hU := mv I hU; clear aW fR I
    refine kn hK ⟨hX.out, hT.out⟩ (fun hHeld => ?_)
    clear hK K
    refine pu 7 ae.out ?_
    refine pu 8 ae.out ?_
    refine pu 9 ae.out ?_
    refine pu 10 ae.out ?_
    refine on 11 ae.out (fun K hK => ?_)
    refine dO (by rfl) 57 rfl a6 bT ?_
    intro gQ qx J aa I
    have cE := ge hB J
    have bk := ne hX J
    have a7 := ne hZ J
    (try replace hV := mv I hV)
    (try replace dr := mv I dr)
    replace hB := mv I hB
    replace hF := mv I hF
    replace hG := mv I hG
    replace hS := mv I hS
    replace hP := mv I hP
    replace hM := mv I hM
    replace hX := mv I hX
    replace hY := mv I hY
    replace hT := mv I hT
    replace hZ := mv I hZ
    replace hU := mv I hU
    have hQ := ak aa
    clear J aa I
    refine kn hK ⟨hX.out, hT.out⟩ (fun hHeld => ?_)
    clear hK K
    exact nc (eF ⟨gQ, v_, mE⟩ _ ⟨hB, hF, hG, hS, hP, hM, hX, hY, hT, hZ, hU, hQ, cE, bk, a7, hV, dr⟩)
   ·skip
    refine dO (by rfl) 57 rfl a6 bT ?_
    intro gQ qx J aa I
    have cE := ge hB J
    have bk := ne hX J
    have a7 := ne hZ J
    (try replace hV := mv I hV)
    (try replace dr := mv I dr)
    replace hB := mv I hB
    replace hF := mv I hF
    replace hG := mv I hG
    replace hS := mv I hS
    replace hP := mv I hP
    replace hM := mv I hM
    replace hX := mv I hX
    replace hY := mv I hY
    replace hT := mv I hT
    replace hZ := mv I hZ
    replace hU := mv I hU
    have hQ := ak aa
    clear J aa I
    refine kn hK ⟨hX.out, hT.out⟩ (fun hHeld => ?_)
    clear hK K
    refine on 6 ae.out (fun K hK => ?_)
    refine gs Try.func49 #[.agg (aU b.addr b.aff b.slots (.slice Af b.free.length cf) (.slice Aa b.attrs.length ca)).toArray, .int .i64 n, eT (cv a)] (HBL.out _ _ ⟨_, _, _, _, rfl, ⟨HL.out, (rr hF).1, (rr hF).2, (rr hG).1, (rr hG).2⟩⟩) ?_
    rintro e V6 ⟨v_, mE, rfl, aW, fR, I⟩
    refine ⟨_, rfl, ?_⟩
    have hV := ak (aW.lower (lb HBASE hB)); have dr := ak (Kd.R_lower fR (lb HBASE hB)); (try replace hQ := mv I hQ); replace hB := mv I hB; replace hF := mv I hF; replace hG := mv I hG; replace hS := mv I hS; replace hP := mv I hP; replace hM := mv I hM; replace hX := mv I hX; replace hY := mv I hY; replace hT := mv I hT; replace hZ := mv I hZ; replace hU := mv I hU; clear aW fR I
    refine kn hK ⟨hX.out, hT.out⟩ (fun hHeld => ?_)
    clear hK K
    refine pu 7 ae.out ?_
    refine pu 8 ae.out ?_
    refine pu 9 ae.out ?_
    refine pu 10 ae.out ?_
    exact nc (eF ⟨gQ, v_, mE⟩ _ ⟨hB, hF, hG, hS, hP, hM, hX, hY, hT, hZ, hU, hQ, cE, bk, a7, hV, dr⟩)
  ·skip
   refine dO (by rfl) 57 rfl a6 bT ?_
   intro gQ qx J aa I
   have cE := ge hB J
   have bk := ne hX J
   have a7 := ne hZ J
   (try replace hV := mv I hV)
   (try replace dr := mv I dr)
   replace hB := mv I hB
   replace hF := mv I hF
   replace hG := mv I hG
   replace hS := mv I hS
   replace hP := mv I hP
   replace hM := mv I hM
   replace hX := mv I hX
   replace hY := mv I hY
   replace hT := mv I hT
   replace hZ := mv I hZ
   replace hU := mv I hU
   have hQ := ak aa
   clear J aa I
   refine kn hK ⟨hX.out, hT.out⟩ (fun hHeld => ?_)
   clear hK K
   refine on 5 ae.out (fun K hK => ?_)
   refine gs Try.func50 #[.agg #[.string a.f0, .string a.f1]] (kX a _) ?_
   rintro e V5 ⟨rfl, I⟩
   refine ⟨_, rfl, ?_⟩
   (try replace hV := mv I hV); (try replace dr := mv I dr); (try replace hQ := mv I hQ); replace hB := mv I hB; replace hF := mv I hF; replace hG := mv I hG; replace hS := mv I hS; replace hP := mv I hP; replace hM := mv I hM; replace hX := mv I hX; replace hY := mv I hY; replace hT := mv I hT; replace hZ := mv I hZ; replace hU := mv I hU; clear  I
   refine kn hK ⟨hX.out, hT.out⟩ (fun hHeld => ?_)
   clear hK K
   refine on 6 ae.out (fun K hK => ?_)
   refine gs Try.func49 #[.agg (aU b.addr b.aff b.slots (.slice Af b.free.length cf) (.slice Aa b.attrs.length ca)).toArray, .int .i64 n, eT (cv a)] (HBL.out _ _ ⟨_, _, _, _, rfl, ⟨HL.out, (rr hF).1, (rr hF).2, (rr hG).1, (rr hG).2⟩⟩) ?_
   rintro e V6 ⟨v_, mE, rfl, aW, fR, I⟩
   refine ⟨_, rfl, ?_⟩
   have hV := ak (aW.lower (lb HBASE hB)); have dr := ak (Kd.R_lower fR (lb HBASE hB)); (try replace hQ := mv I hQ); replace hB := mv I hB; replace hF := mv I hF; replace hG := mv I hG; replace hS := mv I hS; replace hP := mv I hP; replace hM := mv I hM; replace hX := mv I hX; replace hY := mv I hY; replace hT := mv I hT; replace hZ := mv I hZ; replace hU := mv I hU; clear aW fR I
   refine kn hK ⟨hX.out, hT.out⟩ (fun hHeld => ?_)
   clear hK K
   refine pu 7 ae.out ?_
   refine pu 8 ae.out ?_
   refine pu 9 ae.out ?_
   refine pu 10 ae.out ?_
   exact nc (eF ⟨gQ, v_, mE⟩ _ ⟨hB, hF, hG, hS, hP, hM, hX, hY, hT, hZ, hU, hQ, cE, bk, a7, hV, dr⟩)
 intro s w' hFF; obtain ⟨gQ, v_, mE⟩ := s; simp only at hFF; obtain ⟨hB, hF, hG, hS, hP, hM, hX, hY, hT, hZ, hU, hQ, cE, bk, a7, hV, dr⟩ := hFF; have aW := hV.out; obtain ⟨kS, sw, sy, rfl, dQ, eE⟩ := aW; obtain ⟨A8, c8, rfl⟩ := Kd.R_slice dQ; obtain ⟨A9, c9, rfl⟩ := Kd.R_slice eE; obtain ⟨Ao, co, rfl⟩ := Kd.R_slice dr.out; have hC := ak dQ; have hD := ak eE; have hO := dr; clear hV dr kS dQ eE
 refine nj ?_
 refine ow 12 ae.out (fun K hK => ?_)
 refine bJ (by rfl) rfl 57 (.tmp 10) (.tmp 53) rfl gQ (aU nb.addr nb.aff nb.slots (.slice A8 nb.free.length c8) (.slice A9 nb.attrs.length c9)) rfl rfl 57 _ hQ.out 68 (by kernel_rfl) (ah _ _ _ _ _ HNL.out) rfl (b7 _ _ _ _ _ rfl rfl) ?_
 intro PY aa J; replace hB := gb hB cE J; replace hF := gr hF hQ J; replace hG := gr hG hQ J; replace hS := gr hS hQ J; replace hP := gr hP hQ J; replace hM := gr hM hQ J; replace hX := gn hX bk J; replace hY := gx hY hQ J; replace hT := gx hT hQ J; replace hZ := gn hZ a7 J; replace hU := gx hU hQ J; replace hC := gr hC hQ J; replace hD := gr hD hQ J; replace hO := gr hO hQ J; replace hQ := ak (aa); clear aa J
 refine hK.out _ _ ⟨hX.out, hT.out⟩ (fun hHeld => ?_)
 clear hK K
 refine pu 13 ae.out ?_
 refine pu 14 ae.out ?_
 refine dn ae.out ?_
 clear hHeld
 have ic := hT.out.cell 1 _ rfl
 go_wp2_with (first
  | ((with_reducible refine av (N := 57) rfl ?_); refine fH rfl 76 (.tmp 56) rfl gT 2 rfl 79 _ [.string a.f0, .string a.f1] _ hT.out wL Try.underlying76 rfl (by kernel_rfl) ?_)
  | (go_at_call 60; refine (HMY.out _).mono ?_; rintro e so ⟨rfl, I⟩; have iZ := mv I hB; have jF := mv I hF; have jD := mv I hG; have iB := mv I hS; have iC := mv I hP; have iD := mv I hM; have jz := mv I hX; have iA := mv I hY; have nS := mv I hT; have jy := mv I hZ; have jA := mv I hU; have jB := mv I hQ; have jJ := mv I hC; have jH := mv I hD; have tB := mv I hO; have Dl := nS.out.cell 1 _ rfl; clear I hB hF hG hS hP hM hX hY hT hZ hU hQ hC hD hO ic)
  | ((with_reducible refine av (N := 83) rfl ?_); refine fH rfl 76 (.tmp 82) rfl gT 2 rfl 79 _ [.string a.f0, .string a.f1] _ nS.out wL Try.underlying76 rfl (by kernel_rfl) ?_)
  | ((with_reducible refine av (N := 79) rfl ?_); refine az rfl 62 (.tmp 4) rfl gY rfl _ _ _ iA.out Try.underlying62 rfl 5 (by kernel_rfl) rfl ?_)
  | (go_at_call 82; refine (HRL.out _ _ (lb HBASE iZ) ⟨_, _, _, rfl, iB.out, iC.out, by rw [← HM.out]; exact iD.out⟩).mono ?_; rintro e FU ⟨v9, ru, rfl, eG, kR, I⟩; have HSZ := ak (lb HBASE iZ); obtain ⟨wz, sx, sA, rfl, gz, fp, eH⟩ := eG; obtain ⟨A1, c1, rfl⟩ := Kd.R_slice gz; obtain ⟨A2, c2, rfl⟩ := Kd.R_slice fp; obtain ⟨NM, hNM⟩ : ∃ NM, NM = nb.attrs.map vc := ⟨_, rfl⟩; rw [← hNM] at eH; have HNM := ak hNM; obtain ⟨A3, c3, rfl⟩ := Kd.R_slice eH; obtain ⟨EK, DX, rfl⟩ := Kd.R_slice kR; have jn := mv I iZ; have jE := mv I jF; have jC := mv I jD; have iW := mv I iB; have iX := mv I iC; have iY := mv I iD; have ji := mv I jz; have iJ := mv I iA; have rb := mv I nS; have jh := mv I jy; have jl := mv I jA; have jm := mv I jB; have jI := mv I jJ; have jG := mv I jH; have tA := mv I tB; have Mm := ak (gz); have Mg := ak (fp); have Mr := ak (eH); have Jo := ak (Kd.R_lower kR HSZ.out); clear HSZ hNM gz fp eH kR I iZ jF jD iB iC iD jz iA nS jy jA jB jJ jH tB Dl)
  | (refine au (some 13) rfl rfl 62 rfl dH (fun _ => by kernel_rfl) ?_; intro gV S6 J aa I; have db := ge jn J; have fx := ne ji J; have eN := ne iJ J; have vL := ne rb J; have ku := ne jh J; have ef := ne jl J; have vN := ne jm J; have nh := mv I jn; have pg := mv I jE; have pf := mv I jC; have o7 := mv I iW; have pc := mv I iX; have pd := mv I iY; have m8 := mv I ji; have m7 := mv I iJ; have LK := mv I rb; have m6 := mv I jh; have m9 := mv I jl; have nf := mv I jm; have pC := mv I jI; have pv := mv I jG; have LX := mv I tA; have Ml := mv I Mm; have Mf := mv I Mg; have Mq := mv I Mr; have Jn := mv I Jo; have kC := ak (aa); clear J aa I jn jE jC iW iX iY ji iJ rb jh jl jm jI jG tA Mm Mg Mr Jo)
  | (refine aK rfl 62 (.tmp 13) (.tmp 85) rfl gV (dj nb.addr nb.aff (.slice A1 nb.slots.length c1) (.slice A2 nb.free.length c2) (.slice A3 NM.length c3)) rfl rfl 62 _ kC.out 5 (by kernel_rfl) rfl rfl (dM _ _ rfl rfl rfl) ?_; intro Jb aa J; have tT := gb nh db J; have tK := gr pg kC J; have tH := gr pf kC J; have tq := gr o7 kC J; have tx := gr pc kC J; have tD := gr pd kC J; have tj := gx m8 kC J; have th := gn m7 eN J; have LJ := gx LK kC J; have td := gx m6 kC J; have tn := gn m9 ef J; have tu := gx nf kC J; have tQ := gr pC kC J; have tN := gr pv kC J; have LW := gr LX kC J; have Mk := gr Ml kC J; have Me := gr Mf kC J; have Mp := gr Mq kC J; have Jm := gr Jn kC J; have fU := ak (aa); clear aa J nh pg pf o7 pc pd m8 m7 LK m6 m9 nf pC pv LX Ml Mf Mq Jn kC))
 have al : Below Jb.heap.size Jb Jb.drew := br (Below.refl _ _)
 have tS := mv al tT; have tJ := mv al tK; have tG := mv al tH; have tp := mv al tq; have tv := mv al tx; have tC := mv al tD; have ti := mv al tj; have tg := mv al th; have LI := mv al LJ; have tc := mv al td; have tm := mv al tn; have tt := mv al tu; have tP := mv al tQ; have tM := mv al tN; have LV := mv al LW; have Mj := mv al Mk; have Md := mv al Me; have Mo := mv al Mp; have Jl := mv al Jm; have Cz := mv al fU
 clear al tT tK tH tq tx tD tj th LJ td tn tu tQ tN LW Mk Me Mp Jm fU
 have hB := tS
 have hF := tJ
 have hG := tG
 have hS := tp
 have hP := tv
 have hM := tC
 have hX := ti
 have hY := tg
 have hT := LI
 have hZ := tc
 have hU := tm
 have hQ := tt
 have hC := tP
 have hD := tM
 have hO := LV
 have hI := Mj
 have hJ := Md
 have hE := Mo
 have gL := Jl
 have hV := Cz
 clear tS tJ tG tp tv tC ti tg LI tc tm tt tP tM LV Mj Md Mo Jl Cz
 refine dd (n := 12) (S := fun w' => aH w' gQ (aU nb.addr nb.aff nb.slots (.slice A8 nb.free.length c8) (.slice A9 nb.attrs.length c9)) 57 ∧ aH w' gV (dj nb.addr nb.aff (.slice A1 nb.slots.length c1) (.slice A2 nb.free.length c2) (.slice A3 NM.length c3)) 62) (ds := []) #[false, false, false, false, false, false, false, false, false, false, false, false] (by kernel_rfl) rfl rfl ⟨hQ.out, hV.out⟩ (fun hHeld => ?_); refine bQ sO.tab11 sO.bits11 (fun ae bA => ?_)
 refine tk 0 ae.out bA.out hHeld ?_ (hv := by exact fun _ aZ => aQ 57 (.tmp 10) rfl gQ rfl _ _ _ aZ.1 Try.underlying57 rfl (HLN _ _ _ _))
 refine tk 1 ae.out bA.out hHeld ?_ (hv := by exact fun _ aZ => aQ 62 (.tmp 13) rfl gV rfl _ _ _ aZ.2 Try.underlying62 rfl (by kernel_rfl))
 refine pu 2 ae.out ?_
 refine pu 3 ae.out ?_
 refine pu 4 ae.out ?_
 refine pu 5 ae.out ?_
 refine pu 6 ae.out ?_
 refine on 7 ae.out (fun K hK => ?_)
 refine gs Try.func61 #[(.slice Ao oo.length co), (.slice EK oo.length DX)] (qY oo HOL.out _ _ _ _ _ (Kd.R_reads' hO.out).2.2 (Kd.R_reads' hO.out).2.1 (Kd.R_reads' gL.out).2.2 (Kd.R_reads' gL.out).2.1) ?_
 rintro e V7 ⟨rfl, I⟩
 refine ⟨_, rfl, ?_⟩
 replace hB := mv I hB; replace hF := mv I hF; replace hG := mv I hG; replace hS := mv I hS; replace hP := mv I hP; replace hM := mv I hM; replace hX := mv I hX; replace hY := mv I hY; replace hT := mv I hT; replace hZ := mv I hZ; replace hU := mv I hU; replace hQ := mv I hQ; replace hC := mv I hC; replace hD := mv I hD; replace hO := mv I hO; replace hI := mv I hI; replace hJ := mv I hJ; replace hE := mv I hE; replace gL := mv I gL; replace hV := mv I hV
 refine kn hK ⟨hQ.out, hV.out⟩ (fun hHeld => ?_)
 clear hK K
 refine pu 8 ae.out ?_
 refine ow 9 ae.out (fun K hK => ?_)
 refine bJ (by rfl) rfl 57 (.tmp 6) (.tmp 87) rfl gZ (aU nb.addr nb.aff nb.slots (.slice A8 nb.free.length c8) (.slice A9 nb.attrs.length c9)) rfl rfl 57 _ hZ.out 68 (by kernel_rfl) (ah _ _ _ _ _ HNL.out) rfl (b7 _ _ _ _ _ rfl rfl) ?_
 intro V9 aa J; replace hB := gb hB cb J; replace hF := gr hF hZ J; replace hG := gr hG hZ J; replace hS := gr hS hZ J; replace hP := gr hP hZ J; replace hM := gr hM hZ J; replace hX := gn hX aG J; replace hY := gx hY hZ J; replace hT := gx hT hZ J; replace hU := gx hU hZ J; replace hQ := gm hQ a7 J; replace hC := gr hC hZ J; replace hD := gr hD hZ J; replace hO := gr hO hZ J; replace hI := gr hI hZ J; replace hJ := gr hJ hZ J; replace hE := gr hE hZ J; replace gL := gr gL hZ J; replace hV := gx hV hZ J; replace hZ := ak (aa); clear aa J
 refine hK.out _ _ ⟨hQ.out, hV.out⟩ (fun hHeld => ?_)
 clear hK K
 refine ow 10 ae.out (fun K hK => ?_)
 refine bJ (by rfl) rfl 62 (.tmp 7) (.tmp 88) rfl gU (dj nb.addr nb.aff (.slice A1 nb.slots.length c1) (.slice A2 nb.free.length c2) (.slice A3 NM.length c3)) rfl rfl 62 _ hU.out 5 (by kernel_rfl) rfl rfl (dM _ _ rfl rfl rfl) ?_
 intro y7 aa J; replace hB := gb hB fG J; replace hF := gr hF hU J; replace hG := gr hG hU J; replace hS := gr hS hU J; replace hP := gr hP hU J; replace hM := gr hM hU J; replace hX := gx hX hU J; replace hY := gn hY dw J; replace hT := gx hT hU J; replace hZ := gx hZ hU J; replace hQ := gx hQ hU J; replace hC := gr hC hU J; replace hD := gr hD hU J; replace hO := gr hO hU J; replace hI := gr hI hU J; replace hJ := gr hJ hU J; replace hE := gr hE hU J; replace gL := gr gL hU J; replace hV := gm hV ef J; replace hU := ak (aa); clear aa J
 refine hK.out _ _ ⟨hQ.out, hV.out⟩ (fun hHeld => ?_)
 clear hK K
 refine pu 11 ae.out ?_
 refine dn ae.out ?_
 clear hHeld
 go_wp2_with fail
 refine bodyPost_ret (e6 rfl _ _ _ gZ gU 57 62 _ _ _ _ rfl hZ.out rfl Try.underlying57 (by first | exact HLB.out | exact HLN _ _ _ _) rfl hU.out rfl Try.underlying62 (by kernel_rfl)) rfl ⟨_, _, nb, rfl, ?_, ?_, ?_, hB.out⟩
 ·exact HRG.out
 ·exact ⟨HNL.out, _, _, rfl, hC.out, hD.out⟩
 ·exact ⟨_, _, _, rfl, hI.out, hJ.out, by rw [← HNM.out]; exact hE.out⟩
end Go.Proofs.Ytemhalnhbgkbcaa.V
end

section
namespace Go.Proofs.Ytemhalnhbgkbcaa.V
set_option maxHeartbeats 16000000 in
set_option maxRecDepth 100000 in
theorem Ks (b : Bk) (hg : RG b) (kd : Int) (n : Int) (hn : n < 9223372036854775808) (a : ln) (eW : a.f0.size ≤ 9223372036854775807) (fA : a.f1.size ≤ 9223372036854775807) (l : List Int) (hu : ∀ x ∈ l, 0 ≤ x ∧ x < 4294967296) (hlm : l.length ≤ 9223372036854775807) (Al : Option Addr) (cl : Nat) (hcl : l.length ≤ cl) (aff : ByteArray) (hza : aff.size ≤ 9223372036854775807) (hk : kd ≠ 0 ∧ kd ≠ 1 ∧ kd ≠ 2 ∧ kd ≠ 3 ∧ kd ≠ 4 ∧ kd ≠ 5 ∧ kd ≠ 6 ∧ kd ≠ 7) (v v2 : Value) (w : World) (base : Nat) (hbase : base ≤ w.heap.size) (hO : ey w base v b) (hR : eU w base v2 b) (hC : Kd.C (Kd.int .u32) w Al l.length l) :
  Calls Try.prog 47 #[v, v2, .agg #[.int .i64 kd, .int .i64 n, .string a.f0, .string a.f1, .slice Al l.length cl, .string aff]] w fun e w' => ∃ v1 v2 b', e = .returned (.tuple #[v1, v2, .bool true]) ∧ RG b' ∧ ey w' base v1 b' ∧ eU w' base v2 b' ∧ Below w.heap.size w w' := by
 obtain ⟨hl, vf, va, rfl, hf, ha⟩ := hO
 obtain ⟨vs, vp, vm, rfl, hs, hp, hm⟩ := hR
 obtain ⟨Af, cf, rfl⟩ := Kd.R_slice hf
 obtain ⟨Aa, ca, rfl⟩ := Kd.R_slice ha
 obtain ⟨As, cs, rfl⟩ := Kd.R_slice hs
 obtain ⟨Ap, cp, rfl⟩ := Kd.R_slice hp
 obtain ⟨M, hM⟩ : ∃ M, M = b.attrs.map vc := ⟨_, rfl⟩
 rw [← hM] at hm
 obtain ⟨Am, cm, rfl⟩ := Kd.R_slice hm
 have HL := ak hl
 have HM := ak hM
 have bw := ak hf
 have eh := ak ha
 have aV := ak hs
 have eo := ak hp
 have bS := ak hm
 have HG := ak hg
 have ag := ak (Below.refl w.heap.size w)
 have HBASE := ak hbase
 have HLB := ak (ch (aU b.addr b.aff b.slots (.slice Af b.free.length cf) (.slice Aa b.attrs.length ca)) (ah _ _ _ _ _ HL.out))
 obtain ⟨lt, hlt⟩ : ∃ lt, lt = l.take 80 := ⟨_, rfl⟩
 have hut : ∀ x ∈ lt, 0 ≤ x ∧ x < 4294967296 := fun x hx => hu x (by rw [hlt] at hx; exact List.mem_of_mem_take hx)
 have hll : lt.length = min 80 l.length := by rw [hlt, List.length_take]
 have HCL := ak hcl
 have HLL := ak hll
 have HC := ak hC
 have HCT := ak (fun W (I : Below w.heap.size w W) => (show Kd.C (Kd.int .u32) W Al lt.length lt by
  rcases Nat.lt_or_ge 80 l.length with h | h
  ·have h_ := Kd.C_take (m := 80) (Kd.C_below hC I) (by omega)
   rw [← hlt] at h_
   exact h_
  ·have h_ := Kd.C_below hC I
   have e : lt = l := by rw [hlt, List.take_of_length_le h]
   rw [e]
   exact h_))
 obtain ⟨k0, k1, k2, k3, k4, k5, k6, k7⟩ := hk
 have q0 : (kd = 0) = False := eq_false k0
 have r0 : decide (kd = 0) = false := decide_eq_false k0
 have u0 : (kd == 0) = false := beq_eq_false_iff_ne.mpr k0
 have q1 : (kd = 1) = False := eq_false k1
 have r1 : decide (kd = 1) = false := decide_eq_false k1
 have u1 : (kd == 1) = false := beq_eq_false_iff_ne.mpr k1
 have q2 : (kd = 2) = False := eq_false k2
 have r2 : decide (kd = 2) = false := decide_eq_false k2
 have u2 : (kd == 2) = false := beq_eq_false_iff_ne.mpr k2
 have q3 : (kd = 3) = False := eq_false k3
 have r3 : decide (kd = 3) = false := decide_eq_false k3
 have u3 : (kd == 3) = false := beq_eq_false_iff_ne.mpr k3
 have q4 : (kd = 4) = False := eq_false k4
 have r4 : decide (kd = 4) = false := decide_eq_false k4
 have u4 : (kd == 4) = false := beq_eq_false_iff_ne.mpr k4
 have q5 : (kd = 5) = False := eq_false k5
 have r5 : decide (kd = 5) = false := decide_eq_false k5
 have u5 : (kd == 5) = false := beq_eq_false_iff_ne.mpr k5
 have q6 : (kd = 6) = False := eq_false k6
 have r6 : decide (kd = 6) = false := decide_eq_false k6
 have u6 : (kd == 6) = false := beq_eq_false_iff_ne.mpr k6
 have q7 : (kd = 7) = False := eq_false k7
 have r7 : decide (kd = 7) = false := decide_eq_false k7
 have u7 : (kd == 7) = false := beq_eq_false_iff_ne.mpr k7
 clear k0 k1 k2 k3 k4 k5 k6 k7
 clear hl hM hf ha hs hp hm hbase hC hu hut hll hcl hlt hg
 go_enter Try.func47, Try.ntmps47
 go_upto_if 37 with (first
  | (refine aD rfl 57 (.tmp 0) rfl _ rfl ?_; intro gX W1 J aa I; have cg := ge ag J; have ao := ak (ag.out.trans (I.mono ag.out.size)); have bp := mv I bw; have dk := mv I eh; have bb := mv I aV; have dg := mv I eo; have bN := mv I bS; have aj := ak (aa); clear J aa I ag bw eh aV eo bS)
  | (refine aD rfl 62 (.tmp 1) rfl _ rfl ?_; intro gY W2 J aa I; have j8 := ge ao J; have gC := ne aj J; have ay := mv I ao; have bX := mv I bp; have dG := mv I dk; have bK := mv I bb; have di := mv I dg; have cC := mv I bN; have aw := mv I aj; have cA := ak (aa); clear J aa I ao bp dk bb dg bN aj)
  | (refine aD rfl 79 (.tmp 2) rfl _ rfl ?_; intro gT W3 J aa I; have kE := ge ay J; have ie := ne aw J; have iI := ne cA J; have aE := mv I ay; have cy := mv I bX; have dU := mv I dG; have b6 := mv I bK; have dS := mv I di; have da := mv I cC; have aC := mv I aw; have cB := mv I cA; have dN := ak (aa); clear J aa I ay bX dG bK di cC aw cA)
  | (refine au (some 6) rfl rfl 57 rfl a6 bT ?_; intro gZ W4 J aa I; have cb := ge aE J; have aG := ne aC J; have gP := ne cB J; have jS := ne dN J; have a8 := mv I aE; have cx := mv I cy; have dF := mv I dU; have cw := mv I b6; have eb := mv I dS; have cR := mv I da; have aY := mv I aC; have b5 := mv I cB; have dR := mv I dN; have bd := ak (aa); clear J aa I aE cy dU b6 dS da aC cB dN)
  | (refine au (some 7) rfl rfl 62 rfl dH (fun _ => by kernel_rfl) ?_; intro gU W5 J aa I; have fG := ge a8 J; have gR := ne aY J; have dw := ne b5 J; have jT := ne dR J; have gO := ne bd J; have bj := mv I a8; have cj := mv I cx; have cW := mv I dF; have cQ := mv I cw; have ek := mv I eb; have cH := mv I cR; have bc := mv I aY; have cY := mv I b5; have bB := mv I dR; have bI := mv I bd; have eV := ak (aa); have jP := bB.out.cell 0 _ rfl; have ic := bB.out.cell 1 _ rfl; have jO := bB.out.cell 2 _ rfl; have jN := bB.out.cell 3 _ rfl; have jM := bB.out.cell 4 _ rfl; have gN := bB.out.cell 5 _ rfl; clear J aa I a8 cx dF cw eb cR aY b5 dR bd))
 go_cut [9] from 38 to 39 (fun s9 wx => s9 = .slice Al lt.length cl ∧ W5 = wx)
 case first =>
  rcases Nat.lt_or_ge 80 l.length with lY | lY
  ·have lX : decide ((80 : Int) < (l.length : Int)) = true := by simp; omega
   have we : (((0 : Int) ≤ 80 ∧ (80 : Int) ≤ (cl : Int)) = True) := eq_true ⟨by omega, by have := HCL.out; omega⟩
   have wb : (((80 : Int) ≤ (cl : Int)) = True) := eq_true (by have := HCL.out; omega)
   go_wp2_with fail
   go_meet
   exact ⟨by rw [HLL.out, Nat.min_eq_left (by omega)], rfl⟩
  ·have lX : decide ((80 : Int) < (l.length : Int)) = false := by simp; omega
   go_wp2_with fail
   go_meet
   exact ⟨by rw [HLL.out, Nat.min_eq_right (by omega)], rfl⟩
 case rest =>
 obtain ⟨gy, gw⟩ := hcut
 subst gy
 subst gw
 go_wp2_with fail
 have al : Below W5.heap.size W5 W5.drew := br (Below.refl _ _)
 have bO := mv al bj; have cU := mv al cj; have dt := mv al cW; have cZ := mv al cQ; have er := mv al ek; have dE := mv al cH; have bl := mv al bc; have dh := mv al cY; have fy := mv al bB; have bW := mv al bI; have eg := mv al eV
 clear al bj cj cW cQ ek cH bc cY bB bI eV jP ic jO jN jM gN
 have hB := bO
 have hF := cU
 have hG := dt
 have hS := cZ
 have hP := er
 have hM := dE
 have hX := bl
 have hY := dh
 have hT := fy
 have hZ := bW
 have hU := eg
 clear bO cU dt cZ er dE bl dh fy bW eg
 refine dd (n := 5) (S := fun w' => aH w' gX (aU b.addr b.aff b.slots (.slice Af b.free.length cf) (.slice Aa b.attrs.length ca)) 57 ∧ aH w' gY (dj b.addr b.aff (.slice As b.slots.length cs) (.slice Ap b.free.length cp) (.slice Am M.length cm)) 62) (ds := []) #[false, false, false, false, false] (by kernel_rfl) rfl rfl ⟨hX.out, hY.out⟩ (fun hHeld => ?_); refine bQ mw.tab37 mw.bits37 (fun ae bA => ?_)
 refine tk 0 ae.out bA.out hHeld ?_ (hv := by exact fun _ aZ => aQ 57 (.tmp 3) rfl gX rfl _ _ _ aZ.1 Try.underlying57 rfl HLB.out)
 refine tk 1 ae.out bA.out hHeld ?_ (hv := by exact fun _ aZ => aQ 62 (.tmp 4) rfl gY rfl _ _ _ aZ.2 Try.underlying62 rfl (by kernel_rfl))
 refine ow 2 ae.out (fun K hK => ?_)
 refine bJ (by rfl) rfl 57 (.tmp 6) (.tmp 235) rfl gZ (aU b.addr b.aff b.slots (.slice Af b.free.length cf) (.slice Aa b.attrs.length ca)) rfl rfl 57 _ hZ.out 68 (by kernel_rfl) (ah _ _ _ _ _ HL.out) rfl (b7 _ _ _ _ _ rfl rfl) ?_
 intro V2 aa J; replace hB := gb hB cb J; replace hF := gr hF hZ J; replace hG := gr hG hZ J; replace hS := gr hS hZ J; replace hP := gr hP hZ J; replace hM := gr hM hZ J; replace hX := gn hX aG J; replace hY := gx hY hZ J; replace hT := gx hT hZ J; replace hU := gx hU hZ J; replace hZ := ak (aa); clear aa J
 refine hK.out _ _ ⟨hX.out, hY.out⟩ (fun hHeld => ?_)
 clear hK K
 refine ow 3 ae.out (fun K hK => ?_)
 refine bJ (by rfl) rfl 62 (.tmp 7) (.tmp 236) rfl gU (dj b.addr b.aff (.slice As b.slots.length cs) (.slice Ap b.free.length cp) (.slice Am M.length cm)) rfl rfl 62 _ hU.out 5 (by kernel_rfl) rfl rfl (dM _ _ rfl rfl rfl) ?_
 intro V3 aa J; replace hB := gb hB fG J; replace hF := gr hF hU J; replace hG := gr hG hU J; replace hS := gr hS hU J; replace hP := gr hP hU J; replace hM := gr hM hU J; replace hX := gx hX hU J; replace hY := gn hY dw J; replace hT := gx hT hU J; replace hZ := gx hZ hU J; replace hU := ak (aa); clear aa J
 refine hK.out _ _ ⟨hX.out, hY.out⟩ (fun hHeld => ?_)
 clear hK K
 refine pu 4 ae.out ?_
 refine dn ae.out ?_
 clear hHeld
 go_wp2_with fail
 refine bodyPost_ret (e6 rfl _ _ _ gZ gU 57 62 _ _ _ _ rfl hZ.out rfl Try.underlying57 (by first | exact HLB.out | exact HLN _ _ _ _) rfl hU.out rfl Try.underlying62 (by kernel_rfl)) rfl ⟨_, _, b, rfl, ?_, ?_, ?_, hB.out⟩
 ·exact HG.out
 ·exact ⟨HL.out, _, _, rfl, hF.out, hG.out⟩
 ·exact ⟨_, _, _, rfl, hS.out, hP.out, by rw [← HM.out]; exact hM.out⟩
end Go.Proofs.Ytemhalnhbgkbcaa.V
end

section
namespace Go.Proofs.Ytemhalnhbgkbcaa.V
set_option maxHeartbeats 16000000 in
set_option maxRecDepth 100000 in
theorem PD (b : Bk) (hg : RG b) (n : Int) (hn : n < 9223372036854775808) (a : ln) (eW : a.f0.size ≤ 9223372036854775807) (fA : a.f1.size ≤ 9223372036854775807) (l : List Int) (hu : ∀ x ∈ l, 0 ≤ x ∧ x < 4294967296) (hlm : l.length ≤ 9223372036854775807) (Al : Option Addr) (cl : Nat) (hcl : l.length ≤ cl) (aff : ByteArray) (hza : aff.size ≤ 9223372036854775807) (v v2 : Value) (w : World) (base : Nat) (hbase : base ≤ w.heap.size) (hO : ey w base v b) (hR : eU w base v2 b) (hC : Kd.C (Kd.int .u32) w Al l.length l) :
  Calls Try.prog 47 #[v, v2, .agg #[.int .i64 4, .int .i64 n, .string a.f0, .string a.f1, .slice Al l.length cl, .string aff]] w fun e w' => ∃ v1 v2 b', e = .returned (.tuple #[v1, v2, .bool true]) ∧ RG b' ∧ ey w' base v1 b' ∧ eU w' base v2 b' ∧ Below w.heap.size w w' := by
 obtain ⟨hl, vf, va, rfl, hf, ha⟩ := hO
 obtain ⟨vs, vp, vm, rfl, hs, hp, hm⟩ := hR
 obtain ⟨Af, cf, rfl⟩ := Kd.R_slice hf
 obtain ⟨Aa, ca, rfl⟩ := Kd.R_slice ha
 obtain ⟨As, cs, rfl⟩ := Kd.R_slice hs
 obtain ⟨Ap, cp, rfl⟩ := Kd.R_slice hp
 obtain ⟨M, hM⟩ : ∃ M, M = b.attrs.map vc := ⟨_, rfl⟩
 rw [← hM] at hm
 obtain ⟨Am, cm, rfl⟩ := Kd.R_slice hm
 have HL := ak hl
 have HM := ak hM
 have bw := ak hf
 have eh := ak ha
 have aV := ak hs
 have eo := ak hp
 have bS := ak hm
 have HG := ak hg
 have ag := ak (Below.refl w.heap.size w)
 have HBASE := ak hbase
 have HLB := ak (ch (aU b.addr b.aff b.slots (.slice Af b.free.length cf) (.slice Aa b.attrs.length ca)) (ah _ _ _ _ _ HL.out))
 obtain ⟨lt, hlt⟩ : ∃ lt, lt = l.take 80 := ⟨_, rfl⟩
 have hut : ∀ x ∈ lt, 0 ≤ x ∧ x < 4294967296 := fun x hx => hu x (by rw [hlt] at hx; exact List.mem_of_mem_take hx)
 have hll : lt.length = min 80 l.length := by rw [hlt, List.length_take]
 have HCL := ak hcl
 have HLL := ak hll
 have HC := ak hC
 have HCT := ak (fun W (I : Below w.heap.size w W) => (show Kd.C (Kd.int .u32) W Al lt.length lt by
  rcases Nat.lt_or_ge 80 l.length with h | h
  ·have h_ := Kd.C_take (m := 80) (Kd.C_below hC I) (by omega)
   rw [← hlt] at h_
   exact h_
  ·have h_ := Kd.C_below hC I
   have e : lt = l := by rw [hlt, List.take_of_length_le h]
   rw [e]
   exact h_))
 have hp := im hg.right
 have hrg := hg.rel lt
 have hbl := fun v w h hC => ub b hg.ok lt hut (by omega) Al cl hg.right v w h hC
 have hrl := fun v w h hC => rE b hg.ok hp hl lt hut (by omega) Al cl v w h hC
 rw [yn hg] at hrl
 obtain ⟨nb, hnb⟩ : ∃ nb, nb = nP b lt := ⟨_, rfl⟩
 obtain ⟨oo, hoo⟩ : ∃ oo, oo = (relL b lt).2 := ⟨_, rfl⟩
 rw [← hnb, ← hoo] at hbl hrl
 rw [← hnb] at hrg
 have hol : oo.length ≤ 1000 := by rw [hoo]; have h_ := (uG hg.ok hp hl lt lt.length (Nat.le_refl _)).ol; rw [List.take_length] at h_; omega
 have HRG := ak hrg
 have HNL := ak hrg.l64
 have HOL := ak hol
 have HLN := fun A8 c8 A9 c9 => ch (aU nb.addr nb.aff nb.slots (.slice A8 nb.free.length c8) (.slice A9 nb.attrs.length c9)) (ah _ _ _ _ _ HNL.out)
 have HBL := ak hbl
 have HRL := ak hrl
 clear hrg hbl hrl hol hnb hoo hp
 clear hl hM hf ha hs hp hm hbase hC hu hut hll hcl hlt hg
 go_enter Try.func47, Try.ntmps47
 go_upto_if 37 with (first
  | (refine aD rfl 57 (.tmp 0) rfl _ rfl ?_; intro gX W1 J aa I; have cg := ge ag J; have ao := ak (ag.out.trans (I.mono ag.out.size)); have bp := mv I bw; have dk := mv I eh; have bb := mv I aV; have dg := mv I eo; have bN := mv I bS; have aj := ak (aa); clear J aa I ag bw eh aV eo bS)
  | (refine aD rfl 62 (.tmp 1) rfl _ rfl ?_; intro gY W2 J aa I; have j8 := ge ao J; have gC := ne aj J; have ay := mv I ao; have bX := mv I bp; have dG := mv I dk; have bK := mv I bb; have di := mv I dg; have cC := mv I bN; have aw := mv I aj; have cA := ak (aa); clear J aa I ao bp dk bb dg bN aj)
  | (refine aD rfl 79 (.tmp 2) rfl _ rfl ?_; intro gT W3 J aa I; have kE := ge ay J; have ie := ne aw J; have iI := ne cA J; have aE := mv I ay; have cy := mv I bX; have dU := mv I dG; have b6 := mv I bK; have dS := mv I di; have da := mv I cC; have aC := mv I aw; have cB := mv I cA; have dN := ak (aa); clear J aa I ay bX dG bK di cC aw cA)
  | (refine au (some 6) rfl rfl 57 rfl a6 bT ?_; intro gZ W4 J aa I; have cb := ge aE J; have aG := ne aC J; have gP := ne cB J; have jS := ne dN J; have a8 := mv I aE; have cx := mv I cy; have dF := mv I dU; have cw := mv I b6; have eb := mv I dS; have cR := mv I da; have aY := mv I aC; have b5 := mv I cB; have dR := mv I dN; have bd := ak (aa); clear J aa I aE cy dU b6 dS da aC cB dN)
  | (refine au (some 7) rfl rfl 62 rfl dH (fun _ => by kernel_rfl) ?_; intro gU W5 J aa I; have fG := ge a8 J; have gR := ne aY J; have dw := ne b5 J; have jT := ne dR J; have gO := ne bd J; have bj := mv I a8; have cj := mv I cx; have cW := mv I dF; have cQ := mv I cw; have ek := mv I eb; have cH := mv I cR; have bc := mv I aY; have cY := mv I b5; have bB := mv I dR; have bI := mv I bd; have eV := ak (aa); have jP := bB.out.cell 0 _ rfl; have ic := bB.out.cell 1 _ rfl; have jO := bB.out.cell 2 _ rfl; have jN := bB.out.cell 3 _ rfl; have jM := bB.out.cell 4 _ rfl; have gN := bB.out.cell 5 _ rfl; clear J aa I a8 cx dF cw eb cR aY b5 dR bd))
 go_cut [9] from 38 to 39 (fun s9 wx => s9 = .slice Al lt.length cl ∧ W5 = wx)
 case first =>
  rcases Nat.lt_or_ge 80 l.length with lY | lY
  ·have lX : decide ((80 : Int) < (l.length : Int)) = true := by simp; omega
   have we : (((0 : Int) ≤ 80 ∧ (80 : Int) ≤ (cl : Int)) = True) := eq_true ⟨by omega, by have := HCL.out; omega⟩
   have wb : (((80 : Int) ≤ (cl : Int)) = True) := eq_true (by have := HCL.out; omega)
   go_wp2_with fail
   go_meet
   exact ⟨by rw [HLL.out, Nat.min_eq_left (by omega)], rfl⟩
  ·have lX : decide ((80 : Int) < (l.length : Int)) = false := by simp; omega
   go_wp2_with fail
   go_meet
   exact ⟨by rw [HLL.out, Nat.min_eq_right (by omega)], rfl⟩
 case rest =>
 obtain ⟨gy, gw⟩ := hcut
 subst gy
 subst gw
 go_wp2_with (first
  | ((with_reducible refine av (N := 116) rfl ?_); refine az rfl 57 (.tmp 3) rfl gX rfl _ _ _ bc.out Try.underlying57 rfl 68 (by kernel_rfl) (ah _ _ _ _ _ HL.out) ?_)
  | (go_at_call 52; refine (HBL.out _ _ ⟨_, _, _, _, rfl, ⟨HL.out, (rr cj).1, (rr cj).2, (rr cW).1, (rr cW).2⟩⟩ (HCT.out _ bj.out)).mono ?_; rintro e W6 ⟨v_, mE, rfl, aW, fR, I⟩; have HSZ := ak (lb HBASE bj); obtain ⟨kS, sw, sy, rfl, dQ, eE⟩ := aW; obtain ⟨A8, c8, rfl⟩ := Kd.R_slice dQ; obtain ⟨A9, c9, rfl⟩ := Kd.R_slice eE; obtain ⟨Ao, co, rfl⟩ := Kd.R_slice fR; have bO := mv I bj; have cU := mv I cj; have dt := mv I cW; have cZ := mv I cQ; have er := mv I ek; have dE := mv I cH; have bl := mv I bc; have dh := mv I cY; have fy := mv I bB; have bW := mv I bI; have eg := mv I eV; have pB := ak (Kd.R_lower dQ HSZ.out); have pr := ak (Kd.R_lower eE HSZ.out); have nC := ak (Kd.R_lower fR HSZ.out); clear HSZ kS dQ eE fR I bj cj cW cQ ek cH bc cY bB bI eV jP ic jO jN jM gN)
  | (refine au (some 15) rfl rfl 57 rfl a6 bT ?_; intro gQ W7 J aa I; have cE := ge bO J; have bk := ne bl J; have vJ := ne dh J; have vM := ne fy J; have a7 := ne bW J; have vK := ne eg J; have ew := mv I bO; have fu := mv I cU; have j7 := mv I dt; have gE := mv I cZ; have n8 := mv I er; have ky := mv I dE; have dI := mv I bl; have lf := mv I dh; have o6 := mv I fy; have dz := mv I bW; have o5 := mv I eg; have pA := mv I pB; have pq := mv I pr; have kx := mv I nC; have dx := ak (aa); clear J aa I bO cU dt cZ er dE bl dh fy bW eg pB pr nC)
  | (refine aK rfl 57 (.tmp 15) (.tmp 119) rfl gQ (aU nb.addr nb.aff nb.slots (.slice A8 nb.free.length c8) (.slice A9 nb.attrs.length c9)) rfl rfl 57 _ dx.out 68 (by kernel_rfl) (ah _ _ _ _ _ HNL.out) rfl (b7 _ _ _ _ _ rfl rfl) ?_; intro W8 aa J; have iM := gb ew cE J; have kH := gr fu dx J; have kG := gr j7 dx J; have mo := gr gE dx J; have n7 := gr n8 dx J; have oa := gr ky dx J; have iK := gn dI bk J; have nY := gx lf dx J; have nB := gx o6 dx J; have jc := gn dz a7 J; have oZ := gx o5 dx J; have pz := gr pA dx J; have pn := gr pq dx J; have qF := gr kx dx J; have pa := ak (aa); clear aa J ew fu j7 gE n8 ky dI lf o6 dz o5 pA pq kx dx)
  | ((with_reducible refine av (N := 123) rfl ?_); refine az rfl 62 (.tmp 4) rfl gY rfl _ _ _ nY.out Try.underlying62 rfl 5 (by kernel_rfl) rfl ?_)
  | (go_at_call 84; refine (HRL.out _ _ ⟨M, As, cs, Ap, cp, Am, cm, rfl, (ki.of HM.out mo.out n7.out oa.out)⟩ (HCT.out _ iM.out)).mono ?_; rintro e W9 ⟨v9, ru, rfl, eG, kR, I⟩; have HSZ := ak (lb HBASE iM); obtain ⟨wz, sx, sA, rfl, gz, fp, eH⟩ := eG; obtain ⟨A1, c1, rfl⟩ := Kd.R_slice gz; obtain ⟨A2, c2, rfl⟩ := Kd.R_slice fp; obtain ⟨NM, hNM⟩ : ∃ NM, NM = nb.attrs.map vc := ⟨_, rfl⟩; rw [← hNM] at eH; have HNM := ak hNM; obtain ⟨A3, c3, rfl⟩ := Kd.R_slice eH; obtain ⟨EK, DX, rfl⟩ := Kd.R_slice kR; have lO := mv I iM; have od := mv I kH; have oc := mv I kG; have lN := mv I mo; have n6 := mv I n7; have n9 := mv I oa; have lM := mv I iK; have nz := mv I nY; have nA := mv I nB; have ml := mv I jc; have nZ := mv I oZ; have pw := mv I pz; have ph := mv I pn; have wX := mv I qF; have n2 := mv I pa; have EC := ak (Kd.R_lower gz HSZ.out); have QD := ak (Kd.R_lower fp HSZ.out); have QI := ak (Kd.R_lower eH HSZ.out); have L9 := ak (Kd.R_lower kR HSZ.out); clear HSZ hNM gz fp eH kR I iM kH kG mo n7 oa iK nY nB jc oZ pz pn qF pa)
  | (refine au (some 18) rfl rfl 62 rfl dH (fun _ => by kernel_rfl) ?_; intro gV Es J aa I; have db := ge lO J; have fx := ne lM J; have eN := ne nz J; have vL := ne nA J; have ku := ne ml J; have ef := ne nZ J; have vN := ne n2 J; have pD := mv I lO; have tL := mv I od; have tI := mv I oc; have o8 := mv I lN; have tz := mv I n6; have tE := mv I n9; have nR := mv I lM; have q9 := mv I nz; have re := mv I nA; have oW := mv I ml; have ra := mv I nZ; have tR := mv I pw; have tO := mv I ph; have L7 := mv I wX; have ri := mv I n2; have tF := mv I EC; have zR := mv I QD; have Ad := mv I QI; have Jr := mv I L9; have kD := ak (aa); clear J aa I lO od oc lN n6 n9 lM nz nA ml nZ pw ph wX n2 EC QD QI L9)
  | (refine aK rfl 62 (.tmp 18) (.tmp 126) rfl gV (dj nb.addr nb.aff (.slice A1 nb.slots.length c1) (.slice A2 nb.free.length c2) (.slice A3 NM.length c3)) rfl rfl 62 _ kD.out 5 (by kernel_rfl) rfl rfl (dM _ _ rfl rfl rfl) ?_; intro Jf aa J; have tV := gb pD db J; have z8 := gr tL kD J; have z2 := gr tI kD J; have tr := gr o8 kD J; have zF := gr tz kD J; have zM := gr tE kD J; have oY := gx nR kD J; have zj := gn q9 eN J; have zs := gx re kD J; have tf := gx oW kD J; have zq := gn ra ef J; have Av := gr tR kD J; have Ai := gr tO kD J; have LZ := gr L7 kD J; have zB := gx ri kD J; have rj := gr tF kD J; have zQ := gr zR kD J; have Ac := gr Ad kD J; have Jq := gr Jr kD J; have j5 := ak (aa); clear aa J pD tL tI o8 tz tE nR q9 re oW ra tR tO L7 ri tF zR Ad Jr kD))
 have al : Below Jf.heap.size Jf Jf.drew := br (Below.refl _ _)
 have tU := mv al tV; have z7 := mv al z8; have zZ := mv al z2; have rf := mv al tr; have zE := mv al zF; have zL := mv al zM; have oX := mv al oY; have zi := mv al zj; have xz := mv al zs; have q8 := mv al tf; have zp := mv al zq; have Ar := mv al Av; have Ah := mv al Ai; have LY := mv al LZ; have zA := mv al zB; have qd := mv al rj; have zP := mv al zQ; have Ab := mv al Ac; have Jp := mv al Jq; have jk := mv al j5
 clear al tV z8 z2 tr zF zM oY zj zs tf zq Av Ai LZ zB rj zQ Ac Jq j5
 have hB := tU
 have hF := z7
 have hG := zZ
 have hS := rf
 have hP := zE
 have hM := zL
 have hX := oX
 have hY := zi
 have hT := xz
 have hZ := q8
 have hU := zp
 have hC := Ar
 have hD := Ah
 have hO := LY
 have hQ := zA
 have hI := qd
 have hJ := zP
 have hE := Ab
 have gL := Jp
 have hV := jk
 clear tU z7 zZ rf zE zL oX zi xz q8 zp Ar Ah LY zA qd zP Ab Jp jk
 refine dd (n := 12) (S := fun w' => aH w' gQ (aU nb.addr nb.aff nb.slots (.slice A8 nb.free.length c8) (.slice A9 nb.attrs.length c9)) 57 ∧ aH w' gV (dj nb.addr nb.aff (.slice A1 nb.slots.length c1) (.slice A2 nb.free.length c2) (.slice A3 NM.length c3)) 62) (ds := []) #[false, false, false, false, false, false, false, false, false, false, false, false] (by kernel_rfl) rfl rfl ⟨hQ.out, hV.out⟩ (fun hHeld => ?_); refine bQ sM.tab19 sM.bits19 (fun ae bA => ?_)
 refine tk 0 ae.out bA.out hHeld ?_ (hv := by exact fun _ aZ => aQ 57 (.tmp 15) rfl gQ rfl _ _ _ aZ.1 Try.underlying57 rfl (HLN _ _ _ _))
 refine tk 1 ae.out bA.out hHeld ?_ (hv := by exact fun _ aZ => aQ 62 (.tmp 18) rfl gV rfl _ _ _ aZ.2 Try.underlying62 rfl (by kernel_rfl))
 refine pu 2 ae.out ?_
 refine pu 3 ae.out ?_
 refine pu 4 ae.out ?_
 refine pu 5 ae.out ?_
 refine pu 6 ae.out ?_
 refine on 7 ae.out (fun K hK => ?_)
 refine gs Try.func61 #[(.slice Ao oo.length co), (.slice EK oo.length DX)] (qY oo HOL.out _ _ _ _ _ (Kd.R_reads' hO.out).2.2 (Kd.R_reads' hO.out).2.1 (Kd.R_reads' gL.out).2.2 (Kd.R_reads' gL.out).2.1) ?_
 rintro e V7 ⟨rfl, I⟩
 refine ⟨_, rfl, ?_⟩
 replace hB := mv I hB; replace hF := mv I hF; replace hG := mv I hG; replace hS := mv I hS; replace hP := mv I hP; replace hM := mv I hM; replace hX := mv I hX; replace hY := mv I hY; replace hT := mv I hT; replace hZ := mv I hZ; replace hU := mv I hU; replace hC := mv I hC; replace hD := mv I hD; replace hO := mv I hO; replace hQ := mv I hQ; replace hI := mv I hI; replace hJ := mv I hJ; replace hE := mv I hE; replace gL := mv I gL; replace hV := mv I hV
 refine kn hK ⟨hQ.out, hV.out⟩ (fun hHeld => ?_)
 clear hK K
 refine pu 8 ae.out ?_
 refine ow 9 ae.out (fun K hK => ?_)
 refine bJ (by rfl) rfl 57 (.tmp 6) (.tmp 128) rfl gZ (aU nb.addr nb.aff nb.slots (.slice A8 nb.free.length c8) (.slice A9 nb.attrs.length c9)) rfl rfl 57 _ hZ.out 68 (by kernel_rfl) (ah _ _ _ _ _ HNL.out) rfl (b7 _ _ _ _ _ rfl rfl) ?_
 intro V9 aa J; replace hB := gb hB cb J; replace hF := gr hF hZ J; replace hG := gr hG hZ J; replace hS := gr hS hZ J; replace hP := gr hP hZ J; replace hM := gr hM hZ J; replace hX := gn hX aG J; replace hY := gx hY hZ J; replace hT := gx hT hZ J; replace hU := gx hU hZ J; replace hC := gr hC hZ J; replace hD := gr hD hZ J; replace hO := gr hO hZ J; replace hQ := gm hQ a7 J; replace hI := gr hI hZ J; replace hJ := gr hJ hZ J; replace hE := gr hE hZ J; replace gL := gr gL hZ J; replace hV := gx hV hZ J; replace hZ := ak (aa); clear aa J
 refine hK.out _ _ ⟨hQ.out, hV.out⟩ (fun hHeld => ?_)
 clear hK K
 refine ow 10 ae.out (fun K hK => ?_)
 refine bJ (by rfl) rfl 62 (.tmp 7) (.tmp 129) rfl gU (dj nb.addr nb.aff (.slice A1 nb.slots.length c1) (.slice A2 nb.free.length c2) (.slice A3 NM.length c3)) rfl rfl 62 _ hU.out 5 (by kernel_rfl) rfl rfl (dM _ _ rfl rfl rfl) ?_
 intro y7 aa J; replace hB := gb hB fG J; replace hF := gr hF hU J; replace hG := gr hG hU J; replace hS := gr hS hU J; replace hP := gr hP hU J; replace hM := gr hM hU J; replace hX := gx hX hU J; replace hY := gn hY dw J; replace hT := gx hT hU J; replace hZ := gx hZ hU J; replace hC := gr hC hU J; replace hD := gr hD hU J; replace hO := gr hO hU J; replace hQ := gx hQ hU J; replace hI := gr hI hU J; replace hJ := gr hJ hU J; replace hE := gr hE hU J; replace gL := gr gL hU J; replace hV := gm hV ef J; replace hU := ak (aa); clear aa J
 refine hK.out _ _ ⟨hQ.out, hV.out⟩ (fun hHeld => ?_)
 clear hK K
 refine pu 11 ae.out ?_
 refine dn ae.out ?_
 clear hHeld
 go_wp2_with fail
 refine bodyPost_ret (e6 rfl _ _ _ gZ gU 57 62 _ _ _ _ rfl hZ.out rfl Try.underlying57 (by first | exact HLB.out | exact HLN _ _ _ _) rfl hU.out rfl Try.underlying62 (by kernel_rfl)) rfl ⟨_, _, nb, rfl, ?_, ?_, ?_, hB.out⟩
 ·exact HRG.out
 ·exact ⟨HNL.out, _, _, rfl, hC.out, hD.out⟩
 ·exact ⟨_, _, _, rfl, hI.out, hJ.out, by rw [← HNM.out]; exact hE.out⟩
end Go.Proofs.Ytemhalnhbgkbcaa.V
end

