/- The law ImagePlays for every input: texts of ours, put together (part 15 of 17). No further condition. -/
import Derived.Test.YtemhalnhbgkbcaaCImagePlaysx2
import Derived.Test.YtemhalnhbgkbcaaCImagePlaysx6
import Derived.Test.YtemhalnhbgkbcaaCImagePlaysx12
import Derived.Outline
import Derived.Test.YtemhalnhbgkbcaaCImagePlaysx13
import Derived.Test.YtemhalnhbgkbcaaCImagePlaysx4
import Derived.ChangeSame
import Derived.WideShapes
import Derived.OpenShut
import Derived.Deep.SlicePairs
import Derived.Deep.Slices
import Derived.Test.YtemhalnhbgkbcaaCImagePlaysx3
import Derived.Test.YtemhalnhbgkbcaaCImagePlaysx5
import Derived.Test.YtemhalnhbgkbcaaCImagePlaysw1
import Derived.Test.YtemhalnhbgkbcaaCImagePlaysx7
import Derived.Test.YtemhalnhbgkbcaaCImagePlaysx9
set_option linter.unusedVariables false
set_option linter.unusedSimpArgs false
open Go.RowKit Go.Proofs.YtemhalnhbgkbcaaW.PrintWords Go.Proofs.YtemhalnhbgkbcaaW.PrintLast Go.Proofs.YtemhalnhbgkbcaaW.PrintMore Go.Proofs.Ytemhalnhbgkbcaa.Z
section
namespace Go.Proofs.Ytemhalnhbgkbcaa.V
set_option maxHeartbeats 16000000 in
set_option maxRecDepth 100000 in
theorem Ku (b : Bk) (hg : RG b) (n : Int) (hn : n < 9223372036854775808) (a : ln) (eW : a.f0.size ≤ 9223372036854775807) (fA : a.f1.size ≤ 9223372036854775807) (l : List Int) (hu : ∀ x ∈ l, 0 ≤ x ∧ x < 4294967296) (hlm : l.length ≤ 9223372036854775807) (Al : Option Addr) (cl : Nat) (hcl : l.length ≤ cl) (aff : ByteArray) (hza : aff.size ≤ 9223372036854775807) (he : a.f0.toList = []) (v v2 : Value) (w : World) (base : Nat) (hbase : base ≤ w.heap.size) (hO : ey w base v b) (hR : eU w base v2 b) (hC : Kd.C (Kd.int .u32) w Al l.length l) :
  Calls Try.prog 47 #[v, v2, .agg #[.int .i64 5, .int .i64 n, .string a.f0, .string a.f1, .slice Al l.length cl, .string aff]] w fun e w' => ∃ v1 v2 b', e = .returned (.tuple #[v1, v2, .bool true]) ∧ RG b' ∧ ey w' base v1 b' ∧ eU w' base v2 b' ∧ Below w.heap.size w w' := by
 obtain ⟨hl, vf, va, rfl, hf, ha⟩ := hO
 obtain ⟨vs, vp, vm, rfl, hs, hp, hm⟩ := hR
 obtain ⟨Af, cf, rfl⟩ := Kd.R_slice hf
 obtain ⟨Aa, ca, rfl⟩ := Kd.R_slice ha
 obtain ⟨As, cs, rfl⟩ := Kd.R_slice hs
 obtain ⟨Ap, cp, rfl⟩ := Kd.R_slice hp
 obtain ⟨M, hM⟩ : ∃ M, M = b.attrs.map vc := ⟨_, rfl⟩
 rw [← hM] at hm
 obtain ⟨Am, cm, rfl⟩ := Kd.R_slice hm
 have HL := ak hl
 have HM := ak hM
 have bw := ak hf
 have eh := ak ha
 have aV := ak hs
 have eo := ak hp
 have bS := ak hm
 have HG := ak hg
 have ag := ak (Below.refl w.heap.size w)
 have HBASE := ak hbase
 have HLB := ak (ch (aU b.addr b.aff b.slots (.slice Af b.free.length cf) (.slice Aa b.attrs.length ca)) (ah _ _ _ _ _ HL.out))
 obtain ⟨lt, hlt⟩ : ∃ lt, lt = l.take 80 := ⟨_, rfl⟩
 have hut : ∀ x ∈ lt, 0 ≤ x ∧ x < 4294967296 := fun x hx => hu x (by rw [hlt] at hx; exact List.mem_of_mem_take hx)
 have hll : lt.length = min 80 l.length := by rw [hlt, List.length_take]
 have HCL := ak hcl
 have HLL := ak hll
 have HC := ak hC
 have HCT := ak (fun W (I : Below w.heap.size w W) => (show Kd.C (Kd.int .u32) W Al lt.length lt by
  rcases Nat.lt_or_ge 80 l.length with h | h
  ·have h_ := Kd.C_take (m := 80) (Kd.C_below hC I) (by omega)
   rw [← hlt] at h_
   exact h_
  ·have h_ := Kd.C_below hC I
   have e : lt = l := by rw [hlt, List.take_of_length_le h]
   rw [e]
   exact h_))
 have q0 : (a.f0.toList == []) = true := by rw [he]; rfl
 have q1 : a.f0.toList.isEmpty = true := by rw [he]; rfl
 have q2 : (a.f0.toList = []) = True := eq_true he
 clear he
 clear hl hM hf ha hs hp hm hbase hC hu hut hll hcl hlt hg
 go_enter Try.func47, Try.ntmps47
 go_upto_if 37 with (first
  | (refine aD rfl 57 (.tmp 0) rfl _ rfl ?_; intro gX W1 J aa I; have cg := ge ag J; have ao := ak (ag.out.trans (I.mono ag.out.size)); have bp := mv I bw; have dk := mv I eh; have bb := mv I aV; have dg := mv I eo; have bN := mv I bS; have aj := ak (aa); clear J aa I ag bw eh aV eo bS)
  | (refine aD rfl 62 (.tmp 1) rfl _ rfl ?_; intro gY W2 J aa I; have j8 := ge ao J; have gC := ne aj J; have ay := mv I ao; have bX := mv I bp; have dG := mv I dk; have bK := mv I bb; have di := mv I dg; have cC := mv I bN; have aw := mv I aj; have cA := ak (aa); clear J aa I ao bp dk bb dg bN aj)
  | (refine aD rfl 79 (.tmp 2) rfl _ rfl ?_; intro gT W3 J aa I; have kE := ge ay J; have ie := ne aw J; have iI := ne cA J; have aE := mv I ay; have cy := mv I bX; have dU := mv I dG; have b6 := mv I bK; have dS := mv I di; have da := mv I cC; have aC := mv I aw; have cB := mv I cA; have dN := ak (aa); clear J aa I ay bX dG bK di cC aw cA)
  | (refine au (some 6) rfl rfl 57 rfl a6 bT ?_; intro gZ W4 J aa I; have cb := ge aE J; have aG := ne aC J; have gP := ne cB J; have jS := ne dN J; have a8 := mv I aE; have cx := mv I cy; have dF := mv I dU; have cw := mv I b6; have eb := mv I dS; have cR := mv I da; have aY := mv I aC; have b5 := mv I cB; have dR := mv I dN; have bd := ak (aa); clear J aa I aE cy dU b6 dS da aC cB dN)
  | (refine au (some 7) rfl rfl 62 rfl dH (fun _ => by kernel_rfl) ?_; intro gU W5 J aa I; have fG := ge a8 J; have gR := ne aY J; have dw := ne b5 J; have jT := ne dR J; have gO := ne bd J; have bj := mv I a8; have cj := mv I cx; have cW := mv I dF; have cQ := mv I cw; have ek := mv I eb; have cH := mv I cR; have bc := mv I aY; have cY := mv I b5; have bB := mv I dR; have bI := mv I bd; have eV := ak (aa); have jP := bB.out.cell 0 _ rfl; have ic := bB.out.cell 1 _ rfl; have jO := bB.out.cell 2 _ rfl; have jN := bB.out.cell 3 _ rfl; have jM := bB.out.cell 4 _ rfl; have gN := bB.out.cell 5 _ rfl; clear J aa I a8 cx dF cw eb cR aY b5 dR bd))
 go_cut [9] from 38 to 39 (fun s9 wx => s9 = .slice Al lt.length cl ∧ W5 = wx)
 case first =>
  rcases Nat.lt_or_ge 80 l.length with lY | lY
  ·have lX : decide ((80 : Int) < (l.length : Int)) = true := by simp; omega
   have we : (((0 : Int) ≤ 80 ∧ (80 : Int) ≤ (cl : Int)) = True) := eq_true ⟨by omega, by have := HCL.out; omega⟩
   have wb : (((80 : Int) ≤ (cl : Int)) = True) := eq_true (by have := HCL.out; omega)
   go_wp2_with fail
   go_meet
   exact ⟨by rw [HLL.out, Nat.min_eq_left (by omega)], rfl⟩
  ·have lX : decide ((80 : Int) < (l.length : Int)) = false := by simp; omega
   go_wp2_with fail
   go_meet
   exact ⟨by rw [HLL.out, Nat.min_eq_right (by omega)], rfl⟩
 case rest =>
 obtain ⟨gy, gw⟩ := hcut
 subst gy
 subst gw
 go_wp2_with fail
 have al : Below W5.heap.size W5 W5.drew := br (Below.refl _ _)
 have bO := mv al bj; have cU := mv al cj; have dt := mv al cW; have cZ := mv al cQ; have er := mv al ek; have dE := mv al cH; have bl := mv al bc; have dh := mv al cY; have fy := mv al bB; have bW := mv al bI; have eg := mv al eV
 clear al bj cj cW cQ ek cH bc cY bB bI eV jP ic jO jN jM gN
 have hB := bO
 have hF := cU
 have hG := dt
 have hS := cZ
 have hP := er
 have hM := dE
 have hX := bl
 have hY := dh
 have hT := fy
 have hZ := bW
 have hU := eg
 clear bO cU dt cZ er dE bl dh fy bW eg
 refine dd (n := 5) (S := fun w' => aH w' gX (aU b.addr b.aff b.slots (.slice Af b.free.length cf) (.slice Aa b.attrs.length ca)) 57 ∧ aH w' gY (dj b.addr b.aff (.slice As b.slots.length cs) (.slice Ap b.free.length cp) (.slice Am M.length cm)) 62) (ds := []) #[false, false, false, false, false] (by kernel_rfl) rfl rfl ⟨hX.out, hY.out⟩ (fun hHeld => ?_); refine bQ mw.tab37 mw.bits37 (fun ae bA => ?_)
 refine tk 0 ae.out bA.out hHeld ?_ (hv := by exact fun _ aZ => aQ 57 (.tmp 3) rfl gX rfl _ _ _ aZ.1 Try.underlying57 rfl HLB.out)
 refine tk 1 ae.out bA.out hHeld ?_ (hv := by exact fun _ aZ => aQ 62 (.tmp 4) rfl gY rfl _ _ _ aZ.2 Try.underlying62 rfl (by kernel_rfl))
 refine ow 2 ae.out (fun K hK => ?_)
 refine bJ (by rfl) rfl 57 (.tmp 6) (.tmp 235) rfl gZ (aU b.addr b.aff b.slots (.slice Af b.free.length cf) (.slice Aa b.attrs.length ca)) rfl rfl 57 _ hZ.out 68 (by kernel_rfl) (ah _ _ _ _ _ HL.out) rfl (b7 _ _ _ _ _ rfl rfl) ?_
 intro V2 aa J; replace hB := gb hB cb J; replace hF := gr hF hZ J; replace hG := gr hG hZ J; replace hS := gr hS hZ J; replace hP := gr hP hZ J; replace hM := gr hM hZ J; replace hX := gn hX aG J; replace hY := gx hY hZ J; replace hT := gx hT hZ J; replace hU := gx hU hZ J; replace hZ := ak (aa); clear aa J
 refine hK.out _ _ ⟨hX.out, hY.out⟩ (fun hHeld => ?_)
 clear hK K
 refine ow 3 ae.out (fun K hK => ?_)
 refine bJ (by rfl) rfl 62 (.tmp 7) (.tmp 236) rfl gU (dj b.addr b.aff (.slice As b.slots.length cs) (.slice Ap b.free.length cp) (.slice Am M.length cm)) rfl rfl 62 _ hU.out 5 (by kernel_rfl) rfl rfl (dM _ _ rfl rfl rfl) ?_
 intro V3 aa J; replace hB := gb hB fG J; replace hF := gr hF hU J; replace hG := gr hG hU J; replace hS := gr hS hU J; replace hP := gr hP hU J; replace hM := gr hM hU J; replace hX := gx hX hU J; replace hY := gn hY dw J; replace hT := gx hT hU J; replace hZ := gx hZ hU J; replace hU := ak (aa); clear aa J
 refine hK.out _ _ ⟨hX.out, hY.out⟩ (fun hHeld => ?_)
 clear hK K
 refine pu 4 ae.out ?_
 refine dn ae.out ?_
 clear hHeld
 go_wp2_with fail
 refine bodyPost_ret (e6 rfl _ _ _ gZ gU 57 62 _ _ _ _ rfl hZ.out rfl Try.underlying57 (by first | exact HLB.out | exact HLN _ _ _ _) rfl hU.out rfl Try.underlying62 (by kernel_rfl)) rfl ⟨_, _, b, rfl, ?_, ?_, ?_, hB.out⟩
 ·exact HG.out
 ·exact ⟨HL.out, _, _, rfl, hF.out, hG.out⟩
 ·exact ⟨_, _, _, rfl, hS.out, hP.out, by rw [← HM.out]; exact hM.out⟩
set_option maxHeartbeats 16000000 in
set_option maxRecDepth 100000 in
theorem NC (b : Bk) (hg : RG b) (n : Int) (hn : n < 9223372036854775808) (a : ln) (eW : a.f0.size ≤ 9223372036854775807) (fA : a.f1.size ≤ 9223372036854775807) (l : List Int) (hu : ∀ x ∈ l, 0 ≤ x ∧ x < 4294967296) (hlm : l.length ≤ 9223372036854775807) (Al : Option Addr) (cl : Nat) (hcl : l.length ≤ cl) (aff : ByteArray) (hza : aff.size ≤ 9223372036854775807) (he : a.f0.toList ≠ []) (v v2 : Value) (w : World) (base : Nat) (hbase : base ≤ w.heap.size) (hO : ey w base v b) (hR : eU w base v2 b) (hC : Kd.C (Kd.int .u32) w Al l.length l) :
  Calls Try.prog 47 #[v, v2, .agg #[.int .i64 5, .int .i64 n, .string a.f0, .string a.f1, .slice Al l.length cl, .string aff]] w fun e w' => ∃ v1 v2 b', e = .returned (.tuple #[v1, v2, .bool true]) ∧ RG b' ∧ ey w' base v1 b' ∧ eU w' base v2 b' ∧ Below w.heap.size w w' := by
 obtain ⟨hl, vf, va, rfl, hf, ha⟩ := hO
 obtain ⟨vs, vp, vm, rfl, hs, hp, hm⟩ := hR
 obtain ⟨Af, cf, rfl⟩ := Kd.R_slice hf
 obtain ⟨Aa, ca, rfl⟩ := Kd.R_slice ha
 obtain ⟨As, cs, rfl⟩ := Kd.R_slice hs
 obtain ⟨Ap, cp, rfl⟩ := Kd.R_slice hp
 obtain ⟨M, hM⟩ : ∃ M, M = b.attrs.map vc := ⟨_, rfl⟩
 rw [← hM] at hm
 obtain ⟨Am, cm, rfl⟩ := Kd.R_slice hm
 have HL := ak hl
 have HM := ak hM
 have bw := ak hf
 have eh := ak ha
 have aV := ak hs
 have eo := ak hp
 have bS := ak hm
 have HG := ak hg
 have ag := ak (Below.refl w.heap.size w)
 have HBASE := ak hbase
 have HLB := ak (ch (aU b.addr b.aff b.slots (.slice Af b.free.length cf) (.slice Aa b.attrs.length ca)) (ah _ _ _ _ _ HL.out))
 obtain ⟨lt, hlt⟩ : ∃ lt, lt = l.take 80 := ⟨_, rfl⟩
 have hut : ∀ x ∈ lt, 0 ≤ x ∧ x < 4294967296 := fun x hx => hu x (by rw [hlt] at hx; exact List.mem_of_mem_take hx)
 have hll : lt.length = min 80 l.length := by rw [hlt, List.length_take]
 have HCL := ak hcl
 have HLL := ak hll
 have HC := ak hC
 have HCT := ak (fun W (I : Below w.heap.size w W) => (show Kd.C (Kd.int .u32) W Al lt.length lt by
  rcases Nat.lt_or_ge 80 l.length with h | h
  ·have h_ := Kd.C_take (m := 80) (Kd.C_below hC I) (by omega)
   rw [← hlt] at h_
   exact h_
  ·have h_ := Kd.C_below hC I
   have e : lt = l := by rw [hlt, List.take_of_length_le h]
   rw [e]
   exact h_))
 have hp := im hg.right
 have hpq : ((fun x => x.f0.toList == a.f0.toList) : At → Bool) = pG a.f0 ⟨#[]⟩ := by
  funext x
  unfold pG
  have h1 : (a.f0.toList == (⟨#[]⟩ : ByteArray).toList) = false := by simpa using he
  have h2 : ((⟨#[]⟩ : ByteArray).toList == (⟨#[]⟩ : ByteArray).toList) = true := beq_self_eq_true _
  rw [h1, h2]
  simp
 have hbl := fun v w h => Ce b hg.ok a.f0 hg.right v w h
 have hgv := fun v w h => yH b hg.ok hp hl a.f0 ⟨#[]⟩ v w h
 rw [hpq] at hbl
 have hur : ∀ x ∈ eD b (pG a.f0 ⟨#[]⟩) 64, 0 ≤ x ∧ x < 4294967296 := oM hg.ok hp.first _
 have hulen := jK b (pG a.f0 ⟨#[]⟩) 64
 obtain ⟨ul, hul⟩ : ∃ ul, ul = eD b (pG a.f0 ⟨#[]⟩) 64 := ⟨_, rfl⟩
 rw [← hul] at hbl hgv hur hulen
 have hrg := hg.rel ul
 have hrl := fun Al cl v w h hC => rE b hg.ok hp hl ul hur (by omega) Al cl v w h hC
 rw [yn hg] at hrl
 obtain ⟨nb, hnb⟩ : ∃ nb, nb = nP b ul := ⟨_, rfl⟩
 obtain ⟨oo, hoo⟩ : ∃ oo, oo = (relL b ul).2 := ⟨_, rfl⟩
 rw [← hnb, ← hoo] at hbl hrl
 rw [← hnb] at hrg
 have hol : oo.length ≤ 1000 := by rw [hoo]; have h_ := (uG hg.ok hp hl ul ul.length (Nat.le_refl _)).ol; rw [List.take_length] at h_; omega
 have HRG := ak hrg
 have HNL := ak hrg.l64
 have HOL := ak hol
 have HLN := fun A8 c8 A9 c9 => ch (aU nb.addr nb.aff nb.slots (.slice A8 nb.free.length c8) (.slice A9 nb.attrs.length c9)) (ah _ _ _ _ _ HNL.out)
 have q0 : (a.f0.toList == []) = false := by simpa using he
 have q1 : a.f0.toList.isEmpty = false := by simpa using he
 have q2 : (a.f0.toList = []) = False := eq_false he
 have HBL := ak hbl
 have HRL := ak hrl
 have HGV := ak hgv
 clear hrg hbl hrl hgv hol hnb hoo hp hpq hur hul hulen he
 clear hl hM hf ha hs hp hm hbase hC hu hut hll hcl hlt hg
 go_enter Try.func47, Try.ntmps47
 go_upto_if 37 with (first
  | (refine aD rfl 57 (.tmp 0) rfl _ rfl ?_; intro gX W1 J aa I; have cg := ge ag J; have ao := ak (ag.out.trans (I.mono ag.out.size)); have bp := mv I bw; have dk := mv I eh; have bb := mv I aV; have dg := mv I eo; have bN := mv I bS; have aj := ak (aa); clear J aa I ag bw eh aV eo bS)
  | (refine aD rfl 62 (.tmp 1) rfl _ rfl ?_; intro gY W2 J aa I; have j8 := ge ao J; have gC := ne aj J; have ay := mv I ao; have bX := mv I bp; have dG := mv I dk; have bK := mv I bb; have di := mv I dg; have cC := mv I bN; have aw := mv I aj; have cA := ak (aa); clear J aa I ao bp dk bb dg bN aj)
  | (refine aD rfl 79 (.tmp 2) rfl _ rfl ?_; intro gT W3 J aa I; have kE := ge ay J; have ie := ne aw J; have iI := ne cA J; have aE := mv I ay; have cy := mv I bX; have dU := mv I dG; have b6 := mv I bK; have dS := mv I di; have da := mv I cC; have aC := mv I aw; have cB := mv I cA; have dN := ak (aa); clear J aa I ay bX dG bK di cC aw cA)
  | (refine au (some 6) rfl rfl 57 rfl a6 bT ?_; intro gZ W4 J aa I; have cb := ge aE J; have aG := ne aC J; have gP := ne cB J; have jS := ne dN J; have a8 := mv I aE; have cx := mv I cy; have dF := mv I dU; have cw := mv I b6; have eb := mv I dS; have cR := mv I da; have aY := mv I aC; have b5 := mv I cB; have dR := mv I dN; have bd := ak (aa); clear J aa I aE cy dU b6 dS da aC cB dN)
  | (refine au (some 7) rfl rfl 62 rfl dH (fun _ => by kernel_rfl) ?_; intro gU W5 J aa I; have fG := ge a8 J; have gR := ne aY J; have dw := ne b5 J; have jT := ne dR J; have gO := ne bd J; have bj := mv I a8; have cj := mv I cx; have cW := mv I dF; have cQ := mv I cw; have ek := mv I eb; have cH := mv I cR; have bc := mv I aY; have cY := mv I b5; have bB := mv I dR; have bI := mv I bd; have eV := ak (aa); have jP := bB.out.cell 0 _ rfl; have ic := bB.out.cell 1 _ rfl; have jO := bB.out.cell 2 _ rfl; have jN := bB.out.cell 3 _ rfl; have jM := bB.out.cell 4 _ rfl; have gN := bB.out.cell 5 _ rfl; clear J aa I a8 cx dF cw eb cR aY b5 dR bd))
 go_cut [9] from 38 to 39 (fun s9 wx => s9 = .slice Al lt.length cl ∧ W5 = wx)
 case first =>
  rcases Nat.lt_or_ge 80 l.length with lY | lY
  ·have lX : decide ((80 : Int) < (l.length : Int)) = true := by simp; omega
   have we : (((0 : Int) ≤ 80 ∧ (80 : Int) ≤ (cl : Int)) = True) := eq_true ⟨by omega, by have := HCL.out; omega⟩
   have wb : (((80 : Int) ≤ (cl : Int)) = True) := eq_true (by have := HCL.out; omega)
   go_wp2_with fail
   go_meet
   exact ⟨by rw [HLL.out, Nat.min_eq_left (by omega)], rfl⟩
  ·have lX : decide ((80 : Int) < (l.length : Int)) = false := by simp; omega
   go_wp2_with fail
   go_meet
   exact ⟨by rw [HLL.out, Nat.min_eq_right (by omega)], rfl⟩
 case rest =>
 obtain ⟨gy, gw⟩ := hcut
 subst gy
 subst gw
 go_wp2_with (first
  | ((with_reducible refine av (N := 144) rfl ?_); refine az rfl 57 (.tmp 3) rfl gX rfl _ _ _ bc.out Try.underlying57 rfl 68 (by kernel_rfl) (ah _ _ _ _ _ HL.out) ?_)
  | (go_at_call 53; refine (HBL.out _ _ ⟨_, _, _, _, rfl, ⟨HL.out, (rr cj).1, (rr cj).2, (rr cW).1, (rr cW).2⟩⟩).mono ?_; rintro e W6 ⟨v_, mE, rfl, aW, fR, I⟩; have HSZ := ak (lb HBASE bj); obtain ⟨kS, sw, sy, rfl, dQ, eE⟩ := aW; obtain ⟨A8, c8, rfl⟩ := Kd.R_slice dQ; obtain ⟨A9, c9, rfl⟩ := Kd.R_slice eE; obtain ⟨Ao, co, rfl⟩ := Kd.R_slice fR; have bO := mv I bj; have cU := mv I cj; have dt := mv I cW; have cZ := mv I cQ; have er := mv I ek; have dE := mv I cH; have bl := mv I bc; have dh := mv I cY; have fy := mv I bB; have bW := mv I bI; have eg := mv I eV; have pB := ak (Kd.R_lower dQ HSZ.out); have pr := ak (Kd.R_lower eE HSZ.out); have nC := ak (Kd.R_lower fR HSZ.out); clear HSZ kS dQ eE fR I bj cj cW cQ ek cH bc cY bB bI eV jP ic jO jN jM gN)
  | (refine au (some 20) rfl rfl 57 rfl a6 bT ?_; intro gQ W7 J aa I; have cE := ge bO J; have bk := ne bl J; have vJ := ne dh J; have vM := ne fy J; have a7 := ne bW J; have vK := ne eg J; have ew := mv I bO; have fu := mv I cU; have j7 := mv I dt; have gE := mv I cZ; have n8 := mv I er; have ky := mv I dE; have dI := mv I bl; have lf := mv I dh; have o6 := mv I fy; have dz := mv I bW; have o5 := mv I eg; have pA := mv I pB; have pq := mv I pr; have kx := mv I nC; have dx := ak (aa); clear J aa I bO cU dt cZ er dE bl dh fy bW eg pB pr nC)
  | (refine aK rfl 57 (.tmp 20) (.tmp 149) rfl gQ (aU nb.addr nb.aff nb.slots (.slice A8 nb.free.length c8) (.slice A9 nb.attrs.length c9)) rfl rfl 57 _ dx.out 68 (by kernel_rfl) (ah _ _ _ _ _ HNL.out) rfl (b7 _ _ _ _ _ rfl rfl) ?_; intro W8 aa J; have iM := gb ew cE J; have kH := gr fu dx J; have kG := gr j7 dx J; have mo := gr gE dx J; have n7 := gr n8 dx J; have oa := gr ky dx J; have iK := gn dI bk J; have nY := gx lf dx J; have nB := gx o6 dx J; have jc := gn dz a7 J; have oZ := gx o5 dx J; have pz := gr pA dx J; have pn := gr pq dx J; have qF := gr kx dx J; have pa := ak (aa); clear aa J ew fu j7 gE n8 ky dI lf o6 dz o5 pA pq kx dx))
 have al : Below W8.heap.size W8 W8.drew := br (Below.refl _ _)
 have lO := mv al iM; have od := mv al kH; have oc := mv al kG; have lN := mv al mo; have n6 := mv al n7; have n9 := mv al oa; have lM := mv al iK; have nz := mv al nY; have nA := mv al nB; have ml := mv al jc; have nZ := mv al oZ; have pw := mv al pz; have ph := mv al pn; have wX := mv al qF; have n2 := mv al pa
 clear al iM kH kG mo n7 oa iK nY nB jc oZ pz pn qF pa
 have hB := lO
 have hF := od
 have hG := oc
 have hS := lN
 have hP := n6
 have hM := n9
 have hX := lM
 have hY := nz
 have hT := nA
 have hZ := ml
 have hU := nZ
 have hC := pw
 have hD := ph
 have hO := wX
 have hQ := n2
 clear lO od oc lN n6 n9 lM nz nA ml nZ pw ph wX n2
 refine dd (n := 13) (S := fun w' => aH w' gY (dj b.addr b.aff (.slice As b.slots.length cs) (.slice Ap b.free.length cp) (.slice Am M.length cm)) 62 ∧ aH w' gT [.int .i64 5, .int .i64 n, .string a.f0, .string a.f1, .slice Al l.length cl, .string aff] 79) (ds := []) #[false, false, false, false, false, false, false, false, false, false, false, false, false] (by kernel_rfl) rfl rfl ⟨hY.out, hT.out⟩ (fun hHeld => ?_); refine bQ sL.tab23 sL.bits23 (fun ae bA => ?_)
 refine tk 0 ae.out bA.out hHeld ?_ (hv := by exact fun _ aZ => aQ 62 (.tmp 4) rfl gY rfl _ _ _ aZ.1 Try.underlying62 rfl (by kernel_rfl))
 refine tk 1 ae.out bA.out hHeld ?_ (hv := by exact fun _ aZ => aQ 62 (.tmp 4) rfl gY rfl _ _ _ aZ.1 Try.underlying62 rfl (by kernel_rfl))
 refine pu 2 ae.out ?_
 refine pu 3 ae.out ?_
 refine tk 4 ae.out bA.out hHeld ?_ (hv := by intro w' aZ; have FG := aZ.2.cell 2 _ rfl; go_simp; with_reducible rfl)
 refine qS (σ := Nat × Option Addr × Nat × Value × Value) 2 #[true, true, true, true, true, true, true, true, true, true, true, false, false] (fun s => [(158, .slice s.2.1 ul.length s.2.2.1), (159, .tuple #[s.2.2.2.1, s.2.2.2.2]), (152, .tuple #[s.2.2.2.1, s.2.2.2.2]), (160, s.2.2.2.1), (161, s.2.2.2.2), (23, .pointer (some ⟨s.1, 0, none⟩))]) (fun s w' => Aside0 (Below w.heap.size w w') ∧ Aside0 (Kd.R (Kd.int .u8) 5 w' base (fun _ => True) (.slice Af b.free.length cf) b.free) ∧ Aside0 (Kd.R ju 85 w' base (fun _ => True) (.slice Aa b.attrs.length ca) b.attrs) ∧ Aside0 (Kd.R (Kd.int .i64) 3 w' base (fun _ => True) (.slice As b.slots.length cs) b.slots) ∧ Aside0 (Kd.R (Kd.int .i64) 3 w' base (fun _ => True) (.slice Ap b.free.length cp) b.free) ∧ Aside0 (Kd.R ib 76 w' base (fun _ => True) (.slice Am M.length cm) M) ∧ Aside0 (aH w' gX (aU b.addr b.aff b.slots (.slice Af b.free.length cf) (.slice Aa b.attrs.length ca)) 57) ∧ Aside0 (aH w' gY (dj b.addr b.aff (.slice As b.slots.length cs) (.slice Ap b.free.length cp) (.slice Am M.length cm)) 62) ∧ Aside0 (aH w' gT [.int .i64 5, .int .i64 n, .string a.f0, .string a.f1, .slice Al l.length cl, .string aff] 79) ∧ Aside0 (aH w' gZ a6 57) ∧ Aside0 (aH w' gU dH 62) ∧ Aside0 (Kd.R (Kd.int .u8) 5 w' base (fun _ => True) (.slice A8 nb.free.length c8) nb.free) ∧ Aside0 (Kd.R ju 85 w' base (fun _ => True) (.slice A9 nb.attrs.length c9) nb.attrs) ∧ Aside0 (Kd.R (Kd.int .u32) 46 w' base (fun _ => True) (.slice Ao oo.length co) oo) ∧ Aside0 (aH w' gQ (aU nb.addr nb.aff nb.slots (.slice A8 nb.free.length c8) (.slice A9 nb.attrs.length c9)) 57) ∧ Aside0 (aH w' s.1 dH 62) ∧ Aside0 (w.heap.size ≤ s.1) ∧ Aside0 (gY ≠ s.1) ∧ Aside0 (gU ≠ s.1) ∧ Aside0 (Kd.R (Kd.int .u32) 46 w' base (fun _ => True) (.slice s.2.1 ul.length s.2.2.1) ul) ∧ Aside0 (eU w' base s.2.2.2.1 nb) ∧ Aside0 (Kd.R (Kd.int .u32) 46 w' base (fun _ => True) s.2.2.2.2 oo)) ?_ ?_
 rotate_left
 ·intro eF
  refine tw 5 10 ae.out (fun K hK => ?_) (fun K hK => ?_)
  ·skip
   refine gs Try.func63 #[.agg (dj b.addr b.aff (.slice As b.slots.length cs) (.slice Ap b.free.length cp) (.slice Am M.length cm)).toArray, .string a.f0, .string ⟨#[]⟩] (HGV.out _ _ ⟨M, As, cs, Ap, cp, Am, cm, rfl, (ki.of HM.out hS.out hP.out hM.out)⟩) ?_
   rintro e V5 ⟨Oi, rfl, sd, I⟩
   refine ⟨_, rfl, ?_⟩
   have hL := ak (Kd.R_lower sd (lb HBASE hB)); obtain ⟨Au, cu, rfl⟩ := Kd.R_slice hL.out; (try replace hV := mv I hV); replace hB := mv I hB; replace hF := mv I hF; replace hG := mv I hG; replace hS := mv I hS; replace hP := mv I hP; replace hM := mv I hM; replace hX := mv I hX; replace hY := mv I hY; replace hT := mv I hT; replace hZ := mv I hZ; replace hU := mv I hU; replace hC := mv I hC; replace hD := mv I hD; replace hO := mv I hO; replace hQ := mv I hQ; clear sd I
   refine kn hK ⟨hY.out, hT.out⟩ (fun hHeld => ?_)
   clear hK K
   refine tw 6 10 ae.out (fun K hK => ?_) (fun K hK => ?_)
   ·skip
    refine gs Try.func84 #[.agg (dj b.addr b.aff (.slice As b.slots.length cs) (.slice Ap b.free.length cp) (.slice Am M.length cm)).toArray, .slice Au ul.length cu] (HRL.out _ _ _ _ ⟨M, As, cs, Ap, cp, Am, cm, rfl, (ki.of HM.out hS.out hP.out hM.out)⟩ (Kd.R_reads' hL.out).2.2) ?_
    rintro e V6 ⟨v9, ru, rfl, eG, kR, I⟩
    refine ⟨_, rfl, ?_⟩
    have kV := ak (eU.lower' eG (lb HBASE hB)); have dr := ak (Kd.R_lower kR (lb HBASE hB)); (try replace hL := mv I hL); (try replace hV := mv I hV); replace hB := mv I hB; replace hF := mv I hF; replace hG := mv I hG; replace hS := mv I hS; replace hP := mv I hP; replace hM := mv I hM; replace hX := mv I hX; replace hY := mv I hY; replace hT := mv I hT; replace hZ := mv I hZ; replace hU := mv I hU; replace hC := mv I hC; replace hD := mv I hD; replace hO := mv I hO; replace hQ := mv I hQ; clear eG kR I
    refine kn hK ⟨hY.out, hT.out⟩ (fun hHeld => ?_)
    clear hK K
    refine pu 7 ae.out ?_
    refine pu 8 ae.out ?_
    refine pu 9 ae.out ?_
    refine on 10 ae.out (fun K hK => ?_)
    refine dO (by rfl) 62 rfl dH (fun _ => by kernel_rfl) ?_
    intro gV y7 J aa I
    have db := ge hB J
    have eN := ne hY J
    have ef := ne hU J
    (try replace hL := mv I hL)
    (try replace kV := mv I kV)
    (try replace dr := mv I dr)
    replace hB := mv I hB
    replace hF := mv I hF
    replace hG := mv I hG
    replace hS := mv I hS
    replace hP := mv I hP
    replace hM := mv I hM
    replace hX := mv I hX
    replace hY := mv I hY
    replace hT := mv I hT
    replace hZ := mv I hZ
    replace hU := mv I hU
    replace hC := mv I hC
    replace hD := mv I hD
    replace hO := mv I hO
    replace hQ := mv I hQ
    have hV := ak aa
    clear J aa I
    refine kn hK ⟨hY.out, hT.out⟩ (fun hHeld => ?_)
    clear hK K
    exact nc (eF ⟨gV, Au, cu, v9, ru⟩ _ ⟨hB, hF, hG, hS, hP, hM, hX, hY, hT, hZ, hU, hC, hD, hO, hQ, hV, db, eN, ef, hL, kV, dr⟩)
   ·skip
    refine dO (by rfl) 62 rfl dH (fun _ => by kernel_rfl) ?_
    intro gV y7 J aa I
    have db := ge hB J
    have eN := ne hY J
    have ef := ne hU J
    (try replace hL := mv I hL)
    (try replace kV := mv I kV)
    (try replace dr := mv I dr)
    replace hB := mv I hB
    replace hF := mv I hF
    replace hG := mv I hG
    replace hS := mv I hS
    replace hP := mv I hP
    replace hM := mv I hM
    replace hX := mv I hX
    replace hY := mv I hY
    replace hT := mv I hT
    replace hZ := mv I hZ
    replace hU := mv I hU
    replace hC := mv I hC
    replace hD := mv I hD
    replace hO := mv I hO
    replace hQ := mv I hQ
    have hV := ak aa
    clear J aa I
    refine kn hK ⟨hY.out, hT.out⟩ (fun hHeld => ?_)
    clear hK K
    refine on 6 ae.out (fun K hK => ?_)
    refine gs Try.func84 #[.agg (dj b.addr b.aff (.slice As b.slots.length cs) (.slice Ap b.free.length cp) (.slice Am M.length cm)).toArray, .slice Au ul.length cu] (HRL.out _ _ _ _ ⟨M, As, cs, Ap, cp, Am, cm, rfl, (ki.of HM.out hS.out hP.out hM.out)⟩ (Kd.R_reads' hL.out).2.2) ?_
    rintro e V6 ⟨v9, ru, rfl, eG, kR, I⟩
    refine ⟨_, rfl, ?_⟩
    have kV := ak (eU.lower' eG (lb HBASE hB)); have dr := ak (Kd.R_lower kR (lb HBASE hB)); (try replace hL := mv I hL); (try replace hV := mv I hV); replace hB := mv I hB; replace hF := mv I hF; replace hG := mv I hG; replace hS := mv I hS; replace hP := mv I hP; replace hM := mv I hM; replace hX := mv I hX; replace hY := mv I hY; replace hT := mv I hT; replace hZ := mv I hZ; replace hU := mv I hU; replace hC := mv I hC; replace hD := mv I hD; replace hO := mv I hO; replace hQ := mv I hQ; clear eG kR I
    refine kn hK ⟨hY.out, hT.out⟩ (fun hHeld => ?_)
    clear hK K
    refine pu 7 ae.out ?_
    refine pu 8 ae.out ?_
    refine pu 9 ae.out ?_
    exact nc (eF ⟨gV, Au, cu, v9, ru⟩ _ ⟨hB, hF, hG, hS, hP, hM, hX, hY, hT, hZ, hU, hC, hD, hO, hQ, hV, db, eN, ef, hL, kV, dr⟩)
  ·skip
   refine dO (by rfl) 62 rfl dH (fun _ => by kernel_rfl) ?_
   intro gV y7 J aa I
   have db := ge hB J
   have eN := ne hY J
   have ef := ne hU J
   (try replace hL := mv I hL)
   (try replace kV := mv I kV)
   (try replace dr := mv I dr)
   replace hB := mv I hB
   replace hF := mv I hF
   replace hG := mv I hG
   replace hS := mv I hS
   replace hP := mv I hP
   replace hM := mv I hM
   replace hX := mv I hX
   replace hY := mv I hY
   replace hT := mv I hT
   replace hZ := mv I hZ
   replace hU := mv I hU
   replace hC := mv I hC
   replace hD := mv I hD
   replace hO := mv I hO
   replace hQ := mv I hQ
   have hV := ak aa
   clear J aa I
   refine kn hK ⟨hY.out, hT.out⟩ (fun hHeld => ?_)
   clear hK K
   refine on 5 ae.out (fun K hK => ?_)
   refine gs Try.func63 #[.agg (dj b.addr b.aff (.slice As b.slots.length cs) (.slice Ap b.free.length cp) (.slice Am M.length cm)).toArray, .string a.f0, .string ⟨#[]⟩] (HGV.out _ _ ⟨M, As, cs, Ap, cp, Am, cm, rfl, (ki.of HM.out hS.out hP.out hM.out)⟩) ?_
   rintro e V5 ⟨Oi, rfl, sd, I⟩
   refine ⟨_, rfl, ?_⟩
   have hL := ak (Kd.R_lower sd (lb HBASE hB)); obtain ⟨Au, cu, rfl⟩ := Kd.R_slice hL.out; (try replace hV := mv I hV); replace hB := mv I hB; replace hF := mv I hF; replace hG := mv I hG; replace hS := mv I hS; replace hP := mv I hP; replace hM := mv I hM; replace hX := mv I hX; replace hY := mv I hY; replace hT := mv I hT; replace hZ := mv I hZ; replace hU := mv I hU; replace hC := mv I hC; replace hD := mv I hD; replace hO := mv I hO; replace hQ := mv I hQ; clear sd I
   refine kn hK ⟨hY.out, hT.out⟩ (fun hHeld => ?_)
   clear hK K
   refine on 6 ae.out (fun K hK => ?_)
   refine gs Try.func84 #[.agg (dj b.addr b.aff (.slice As b.slots.length cs) (.slice Ap b.free.length cp) (.slice Am M.length cm)).toArray, .slice Au ul.length cu] (HRL.out _ _ _ _ ⟨M, As, cs, Ap, cp, Am, cm, rfl, (ki.of HM.out hS.out hP.out hM.out)⟩ (Kd.R_reads' hL.out).2.2) ?_
   rintro e V6 ⟨v9, ru, rfl, eG, kR, I⟩
   refine ⟨_, rfl, ?_⟩
   have kV := ak (eU.lower' eG (lb HBASE hB)); have dr := ak (Kd.R_lower kR (lb HBASE hB)); (try replace hL := mv I hL); (try replace hV := mv I hV); replace hB := mv I hB; replace hF := mv I hF; replace hG := mv I hG; replace hS := mv I hS; replace hP := mv I hP; replace hM := mv I hM; replace hX := mv I hX; replace hY := mv I hY; replace hT := mv I hT; replace hZ := mv I hZ; replace hU := mv I hU; replace hC := mv I hC; replace hD := mv I hD; replace hO := mv I hO; replace hQ := mv I hQ; clear eG kR I
   refine kn hK ⟨hY.out, hT.out⟩ (fun hHeld => ?_)
   clear hK K
   refine pu 7 ae.out ?_
   refine pu 8 ae.out ?_
   refine pu 9 ae.out ?_
   exact nc (eF ⟨gV, Au, cu, v9, ru⟩ _ ⟨hB, hF, hG, hS, hP, hM, hX, hY, hT, hZ, hU, hC, hD, hO, hQ, hV, db, eN, ef, hL, kV, dr⟩)
 intro s w' hFF; obtain ⟨gV, Au, cu, v9, ru⟩ := s; simp only at hFF; obtain ⟨hB, hF, hG, hS, hP, hM, hX, hY, hT, hZ, hU, hC, hD, hO, hQ, hV, db, eN, ef, hL, kV, dr⟩ := hFF; have eG := kV.out; obtain ⟨wz, sx, sA, rfl, gz, fp, eH⟩ := eG; obtain ⟨A1, c1, rfl⟩ := Kd.R_slice gz; obtain ⟨A2, c2, rfl⟩ := Kd.R_slice fp; obtain ⟨NM, hNM⟩ : ∃ NM, NM = nb.attrs.map vc := ⟨_, rfl⟩; rw [← hNM] at eH; have HNM := ak hNM; obtain ⟨A3, c3, rfl⟩ := Kd.R_slice eH; obtain ⟨EK, DX, rfl⟩ := Kd.R_slice dr.out; have hI := ak gz; have hJ := ak fp; have hE := ak eH; have gL := dr; clear hL kV dr hNM gz fp eH
 refine nj ?_
 refine ow 11 ae.out (fun K hK => ?_)
 refine bJ (by rfl) rfl 62 (.tmp 23) (.tmp 160) rfl gV (dj nb.addr nb.aff (.slice A1 nb.slots.length c1) (.slice A2 nb.free.length c2) (.slice A3 NM.length c3)) rfl rfl 62 _ hV.out 5 (by kernel_rfl) rfl rfl (dM _ _ rfl rfl rfl) ?_
 intro qx aa J; replace hB := gb hB db J; replace hF := gr hF hV J; replace hG := gr hG hV J; replace hS := gr hS hV J; replace hP := gr hP hV J; replace hM := gr hM hV J; replace hX := gx hX hV J; replace hY := gn hY eN J; replace hT := gx hT hV J; replace hZ := gx hZ hV J; replace hU := gn hU ef J; replace hC := gr hC hV J; replace hD := gr hD hV J; replace hO := gr hO hV J; replace hQ := gx hQ hV J; replace hI := gr hI hV J; replace hJ := gr hJ hV J; replace hE := gr hE hV J; replace gL := gr gL hV J; replace hV := ak (aa); clear aa J
 refine hK.out _ _ ⟨hY.out, hT.out⟩ (fun hHeld => ?_)
 clear hK K
 refine pu 12 ae.out ?_
 refine dn ae.out ?_
 clear hHeld
 go_wp2_with fail
 have al : Below qx.heap.size qx qx.drew := br (Below.refl _ _)
 have Az := mv al hB; have z3 := mv al hF; have zV := mv al hG; have zt := mv al hS; have zC := mv al hP; have zJ := mv al hM; have zk := mv al hX; have zg := mv al hY; have zr := mv al hT; have zd := mv al hZ; have zn := mv al hU; have Aj := mv al hC; have Ae := mv al hD; have zG := mv al hO; have zy := mv al hQ; have zm := mv al hV; have zS := mv al hI; have zO := mv al hJ; have z9 := mv al hE; have wZ := mv al gL
 clear al hB hF hG hS hP hM hX hY hT hZ hU hC hD hO hQ hV hI hJ hE gL
 have hB := Az
 have hF := z3
 have hG := zV
 have hS := zt
 have hP := zC
 have hM := zJ
 have hX := zk
 have hY := zg
 have hT := zr
 have hZ := zd
 have hU := zn
 have hC := Aj
 have hD := Ae
 have hO := zG
 have hQ := zy
 have hV := zm
 have hI := zS
 have hJ := zO
 have hE := z9
 have gL := wZ
 clear Az z3 zV zt zC zJ zk zg zr zd zn Aj Ae zG zy zm zS zO z9 wZ
 refine dd (n := 12) (S := fun w' => aH w' gQ (aU nb.addr nb.aff nb.slots (.slice A8 nb.free.length c8) (.slice A9 nb.attrs.length c9)) 57 ∧ aH w' gV (dj nb.addr nb.aff (.slice A1 nb.slots.length c1) (.slice A2 nb.free.length c2) (.slice A3 NM.length c3)) 62) (ds := []) #[false, false, false, false, false, false, false, false, false, false, false, false] (by kernel_rfl) rfl rfl ⟨hQ.out, hV.out⟩ (fun hHeld => ?_); refine bQ sK.tab24 sK.bits24 (fun ae bA => ?_)
 refine tk 0 ae.out bA.out hHeld ?_ (hv := by exact fun _ aZ => aQ 57 (.tmp 20) rfl gQ rfl _ _ _ aZ.1 Try.underlying57 rfl (HLN _ _ _ _))
 refine tk 1 ae.out bA.out hHeld ?_ (hv := by exact fun _ aZ => aQ 62 (.tmp 23) rfl gV rfl _ _ _ aZ.2 Try.underlying62 rfl (by kernel_rfl))
 refine pu 2 ae.out ?_
 refine pu 3 ae.out ?_
 refine pu 4 ae.out ?_
 refine pu 5 ae.out ?_
 refine pu 6 ae.out ?_
 refine on 7 ae.out (fun K hK => ?_)
 refine gs Try.func61 #[(.slice Ao oo.length co), (.slice EK oo.length DX)] (qY oo HOL.out _ _ _ _ _ (Kd.R_reads' hO.out).2.2 (Kd.R_reads' hO.out).2.1 (Kd.R_reads' gL.out).2.2 (Kd.R_reads' gL.out).2.1) ?_
 rintro e V7 ⟨rfl, I⟩
 refine ⟨_, rfl, ?_⟩
 replace hB := mv I hB; replace hF := mv I hF; replace hG := mv I hG; replace hS := mv I hS; replace hP := mv I hP; replace hM := mv I hM; replace hX := mv I hX; replace hY := mv I hY; replace hT := mv I hT; replace hZ := mv I hZ; replace hU := mv I hU; replace hC := mv I hC; replace hD := mv I hD; replace hO := mv I hO; replace hQ := mv I hQ; replace hV := mv I hV; replace hI := mv I hI; replace hJ := mv I hJ; replace hE := mv I hE; replace gL := mv I gL
 refine kn hK ⟨hQ.out, hV.out⟩ (fun hHeld => ?_)
 clear hK K
 refine pu 8 ae.out ?_
 refine ow 9 ae.out (fun K hK => ?_)
 refine bJ (by rfl) rfl 57 (.tmp 6) (.tmp 162) rfl gZ (aU nb.addr nb.aff nb.slots (.slice A8 nb.free.length c8) (.slice A9 nb.attrs.length c9)) rfl rfl 57 _ hZ.out 68 (by kernel_rfl) (ah _ _ _ _ _ HNL.out) rfl (b7 _ _ _ _ _ rfl rfl) ?_
 intro V9 aa J; replace hB := gb hB cb J; replace hF := gr hF hZ J; replace hG := gr hG hZ J; replace hS := gr hS hZ J; replace hP := gr hP hZ J; replace hM := gr hM hZ J; replace hX := gn hX aG J; replace hY := gx hY hZ J; replace hT := gx hT hZ J; replace hU := gx hU hZ J; replace hC := gr hC hZ J; replace hD := gr hD hZ J; replace hO := gr hO hZ J; replace hQ := gm hQ a7 J; replace hV := gx hV hZ J; replace hI := gr hI hZ J; replace hJ := gr hJ hZ J; replace hE := gr hE hZ J; replace gL := gr gL hZ J; replace hZ := ak (aa); clear aa J
 refine hK.out _ _ ⟨hQ.out, hV.out⟩ (fun hHeld => ?_)
 clear hK K
 refine ow 10 ae.out (fun K hK => ?_)
 refine bJ (by rfl) rfl 62 (.tmp 7) (.tmp 163) rfl gU (dj nb.addr nb.aff (.slice A1 nb.slots.length c1) (.slice A2 nb.free.length c2) (.slice A3 NM.length c3)) rfl rfl 62 _ hU.out 5 (by kernel_rfl) rfl rfl (dM _ _ rfl rfl rfl) ?_
 intro y7 aa J; replace hB := gb hB fG J; replace hF := gr hF hU J; replace hG := gr hG hU J; replace hS := gr hS hU J; replace hP := gr hP hU J; replace hM := gr hM hU J; replace hX := gx hX hU J; replace hY := gn hY dw J; replace hT := gx hT hU J; replace hZ := gx hZ hU J; replace hC := gr hC hU J; replace hD := gr hD hU J; replace hO := gr hO hU J; replace hQ := gx hQ hU J; replace hV := gm hV ef J; replace hI := gr hI hU J; replace hJ := gr hJ hU J; replace hE := gr hE hU J; replace gL := gr gL hU J; replace hU := ak (aa); clear aa J
 refine hK.out _ _ ⟨hQ.out, hV.out⟩ (fun hHeld => ?_)
 clear hK K
 refine pu 11 ae.out ?_
 refine dn ae.out ?_
 clear hHeld
 go_wp2_with fail
 refine bodyPost_ret (e6 rfl _ _ _ gZ gU 57 62 _ _ _ _ rfl hZ.out rfl Try.underlying57 (by first | exact HLB.out | exact HLN _ _ _ _) rfl hU.out rfl Try.underlying62 (by kernel_rfl)) rfl ⟨_, _, nb, rfl, ?_, ?_, ?_, hB.out⟩
 ·exact HRG.out
 ·exact ⟨HNL.out, _, _, rfl, hC.out, hD.out⟩
 ·exact ⟨_, _, _, rfl, hI.out, hJ.out, by rw [← HNM.out]; exact hE.out⟩
end Go.Proofs.Ytemhalnhbgkbcaa.V
end

section
namespace Go.Proofs.Ytemhalnhbgkbcaa.V
set_option maxHeartbeats 16000000 in
set_option maxRecDepth 100000 in
theorem Kt (b : Bk) (hg : RG b) (n : Int) (hn : n < 9223372036854775808) (a : ln) (eW : a.f0.size ≤ 9223372036854775807) (fA : a.f1.size ≤ 9223372036854775807) (l : List Int) (hu : ∀ x ∈ l, 0 ≤ x ∧ x < 4294967296) (hlm : l.length ≤ 9223372036854775807) (Al : Option Addr) (cl : Nat) (hcl : l.length ≤ cl) (aff : ByteArray) (hza : aff.size ≤ 9223372036854775807) (he : a.f1.toList = []) (v v2 : Value) (w : World) (base : Nat) (hbase : base ≤ w.heap.size) (hO : ey w base v b) (hR : eU w base v2 b) (hC : Kd.C (Kd.int .u32) w Al l.length l) :
  Calls Try.prog 47 #[v, v2, .agg #[.int .i64 6, .int .i64 n, .string a.f0, .string a.f1, .slice Al l.length cl, .string aff]] w fun e w' => ∃ v1 v2 b', e = .returned (.tuple #[v1, v2, .bool true]) ∧ RG b' ∧ ey w' base v1 b' ∧ eU w' base v2 b' ∧ Below w.heap.size w w' := by
 obtain ⟨hl, vf, va, rfl, hf, ha⟩ := hO
 obtain ⟨vs, vp, vm, rfl, hs, hp, hm⟩ := hR
 obtain ⟨Af, cf, rfl⟩ := Kd.R_slice hf
 obtain ⟨Aa, ca, rfl⟩ := Kd.R_slice ha
 obtain ⟨As, cs, rfl⟩ := Kd.R_slice hs
 obtain ⟨Ap, cp, rfl⟩ := Kd.R_slice hp
 obtain ⟨M, hM⟩ : ∃ M, M = b.attrs.map vc := ⟨_, rfl⟩
 rw [← hM] at hm
 obtain ⟨Am, cm, rfl⟩ := Kd.R_slice hm
 have HL := ak hl
 have HM := ak hM
 have bw := ak hf
 have eh := ak ha
 have aV := ak hs
 have eo := ak hp
 have bS := ak hm
 have HG := ak hg
 have ag := ak (Below.refl w.heap.size w)
 have HBASE := ak hbase
 have HLB := ak (ch (aU b.addr b.aff b.slots (.slice Af b.free.length cf) (.slice Aa b.attrs.length ca)) (ah _ _ _ _ _ HL.out))
 obtain ⟨lt, hlt⟩ : ∃ lt, lt = l.take 80 := ⟨_, rfl⟩
 have hut : ∀ x ∈ lt, 0 ≤ x ∧ x < 4294967296 := fun x hx => hu x (by rw [hlt] at hx; exact List.mem_of_mem_take hx)
 have hll : lt.length = min 80 l.length := by rw [hlt, List.length_take]
 have HCL := ak hcl
 have HLL := ak hll
 have HC := ak hC
 have HCT := ak (fun W (I : Below w.heap.size w W) => (show Kd.C (Kd.int .u32) W Al lt.length lt by
  rcases Nat.lt_or_ge 80 l.length with h | h
  ·have h_ := Kd.C_take (m := 80) (Kd.C_below hC I) (by omega)
   rw [← hlt] at h_
   exact h_
  ·have h_ := Kd.C_below hC I
   have e : lt = l := by rw [hlt, List.take_of_length_le h]
   rw [e]
   exact h_))
 have q0 : (a.f1.toList == []) = true := by rw [he]; rfl
 have q1 : a.f1.toList.isEmpty = true := by rw [he]; rfl
 have q2 : (a.f1.toList = []) = True := eq_true he
 clear he
 clear hl hM hf ha hs hp hm hbase hC hu hut hll hcl hlt hg
 go_enter Try.func47, Try.ntmps47
 go_upto_if 37 with (first
  | (refine aD rfl 57 (.tmp 0) rfl _ rfl ?_; intro gX W1 J aa I; have cg := ge ag J; have ao := ak (ag.out.trans (I.mono ag.out.size)); have bp := mv I bw; have dk := mv I eh; have bb := mv I aV; have dg := mv I eo; have bN := mv I bS; have aj := ak (aa); clear J aa I ag bw eh aV eo bS)
  | (refine aD rfl 62 (.tmp 1) rfl _ rfl ?_; intro gY W2 J aa I; have j8 := ge ao J; have gC := ne aj J; have ay := mv I ao; have bX := mv I bp; have dG := mv I dk; have bK := mv I bb; have di := mv I dg; have cC := mv I bN; have aw := mv I aj; have cA := ak (aa); clear J aa I ao bp dk bb dg bN aj)
  | (refine aD rfl 79 (.tmp 2) rfl _ rfl ?_; intro gT W3 J aa I; have kE := ge ay J; have ie := ne aw J; have iI := ne cA J; have aE := mv I ay; have cy := mv I bX; have dU := mv I dG; have b6 := mv I bK; have dS := mv I di; have da := mv I cC; have aC := mv I aw; have cB := mv I cA; have dN := ak (aa); clear J aa I ay bX dG bK di cC aw cA)
  | (refine au (some 6) rfl rfl 57 rfl a6 bT ?_; intro gZ W4 J aa I; have cb := ge aE J; have aG := ne aC J; have gP := ne cB J; have jS := ne dN J; have a8 := mv I aE; have cx := mv I cy; have dF := mv I dU; have cw := mv I b6; have eb := mv I dS; have cR := mv I da; have aY := mv I aC; have b5 := mv I cB; have dR := mv I dN; have bd := ak (aa); clear J aa I aE cy dU b6 dS da aC cB dN)
  | (refine au (some 7) rfl rfl 62 rfl dH (fun _ => by kernel_rfl) ?_; intro gU W5 J aa I; have fG := ge a8 J; have gR := ne aY J; have dw := ne b5 J; have jT := ne dR J; have gO := ne bd J; have bj := mv I a8; have cj := mv I cx; have cW := mv I dF; have cQ := mv I cw; have ek := mv I eb; have cH := mv I cR; have bc := mv I aY; have cY := mv I b5; have bB := mv I dR; have bI := mv I bd; have eV := ak (aa); have jP := bB.out.cell 0 _ rfl; have ic := bB.out.cell 1 _ rfl; have jO := bB.out.cell 2 _ rfl; have jN := bB.out.cell 3 _ rfl; have jM := bB.out.cell 4 _ rfl; have gN := bB.out.cell 5 _ rfl; clear J aa I a8 cx dF cw eb cR aY b5 dR bd))
 go_cut [9] from 38 to 39 (fun s9 wx => s9 = .slice Al lt.length cl ∧ W5 = wx)
 case first =>
  rcases Nat.lt_or_ge 80 l.length with lY | lY
  ·have lX : decide ((80 : Int) < (l.length : Int)) = true := by simp; omega
   have we : (((0 : Int) ≤ 80 ∧ (80 : Int) ≤ (cl : Int)) = True) := eq_true ⟨by omega, by have := HCL.out; omega⟩
   have wb : (((80 : Int) ≤ (cl : Int)) = True) := eq_true (by have := HCL.out; omega)
   go_wp2_with fail
   go_meet
   exact ⟨by rw [HLL.out, Nat.min_eq_left (by omega)], rfl⟩
  ·have lX : decide ((80 : Int) < (l.length : Int)) = false := by simp; omega
   go_wp2_with fail
   go_meet
   exact ⟨by rw [HLL.out, Nat.min_eq_right (by omega)], rfl⟩
 case rest =>
 obtain ⟨gy, gw⟩ := hcut
 subst gy
 subst gw
 go_wp2_with fail
 have al : Below W5.heap.size W5 W5.drew := br (Below.refl _ _)
 have bO := mv al bj; have cU := mv al cj; have dt := mv al cW; have cZ := mv al cQ; have er := mv al ek; have dE := mv al cH; have bl := mv al bc; have dh := mv al cY; have fy := mv al bB; have bW := mv al bI; have eg := mv al eV
 clear al bj cj cW cQ ek cH bc cY bB bI eV jP ic jO jN jM gN
 have hB := bO
 have hF := cU
 have hG := dt
 have hS := cZ
 have hP := er
 have hM := dE
 have hX := bl
 have hY := dh
 have hT := fy
 have hZ := bW
 have hU := eg
 clear bO cU dt cZ er dE bl dh fy bW eg
 refine dd (n := 5) (S := fun w' => aH w' gX (aU b.addr b.aff b.slots (.slice Af b.free.length cf) (.slice Aa b.attrs.length ca)) 57 ∧ aH w' gY (dj b.addr b.aff (.slice As b.slots.length cs) (.slice Ap b.free.length cp) (.slice Am M.length cm)) 62) (ds := []) #[false, false, false, false, false] (by kernel_rfl) rfl rfl ⟨hX.out, hY.out⟩ (fun hHeld => ?_); refine bQ mw.tab37 mw.bits37 (fun ae bA => ?_)
 refine tk 0 ae.out bA.out hHeld ?_ (hv := by exact fun _ aZ => aQ 57 (.tmp 3) rfl gX rfl _ _ _ aZ.1 Try.underlying57 rfl HLB.out)
 refine tk 1 ae.out bA.out hHeld ?_ (hv := by exact fun _ aZ => aQ 62 (.tmp 4) rfl gY rfl _ _ _ aZ.2 Try.underlying62 rfl (by kernel_rfl))
 refine ow 2 ae.out (fun K hK => ?_)
 refine bJ (by rfl) rfl 57 (.tmp 6) (.tmp 235) rfl gZ (aU b.addr b.aff b.slots (.slice Af b.free.length cf) (.slice Aa b.attrs.length ca)) rfl rfl 57 _ hZ.out 68 (by kernel_rfl) (ah _ _ _ _ _ HL.out) rfl (b7 _ _ _ _ _ rfl rfl) ?_
 intro V2 aa J; replace hB := gb hB cb J; replace hF := gr hF hZ J; replace hG := gr hG hZ J; replace hS := gr hS hZ J; replace hP := gr hP hZ J; replace hM := gr hM hZ J; replace hX := gn hX aG J; replace hY := gx hY hZ J; replace hT := gx hT hZ J; replace hU := gx hU hZ J; replace hZ := ak (aa); clear aa J
 refine hK.out _ _ ⟨hX.out, hY.out⟩ (fun hHeld => ?_)
 clear hK K
 refine ow 3 ae.out (fun K hK => ?_)
 refine bJ (by rfl) rfl 62 (.tmp 7) (.tmp 236) rfl gU (dj b.addr b.aff (.slice As b.slots.length cs) (.slice Ap b.free.length cp) (.slice Am M.length cm)) rfl rfl 62 _ hU.out 5 (by kernel_rfl) rfl rfl (dM _ _ rfl rfl rfl) ?_
 intro V3 aa J; replace hB := gb hB fG J; replace hF := gr hF hU J; replace hG := gr hG hU J; replace hS := gr hS hU J; replace hP := gr hP hU J; replace hM := gr hM hU J; replace hX := gx hX hU J; replace hY := gn hY dw J; replace hT := gx hT hU J; replace hZ := gx hZ hU J; replace hU := ak (aa); clear aa J
 refine hK.out _ _ ⟨hX.out, hY.out⟩ (fun hHeld => ?_)
 clear hK K
 refine pu 4 ae.out ?_
 refine dn ae.out ?_
 clear hHeld
 go_wp2_with fail
 refine bodyPost_ret (e6 rfl _ _ _ gZ gU 57 62 _ _ _ _ rfl hZ.out rfl Try.underlying57 (by first | exact HLB.out | exact HLN _ _ _ _) rfl hU.out rfl Try.underlying62 (by kernel_rfl)) rfl ⟨_, _, b, rfl, ?_, ?_, ?_, hB.out⟩
 ·exact HG.out
 ·exact ⟨HL.out, _, _, rfl, hF.out, hG.out⟩
 ·exact ⟨_, _, _, rfl, hS.out, hP.out, by rw [← HM.out]; exact hM.out⟩
set_option maxHeartbeats 16000000 in
set_option maxRecDepth 100000 in
theorem NB (b : Bk) (hg : RG b) (n : Int) (hn : n < 9223372036854775808) (a : ln) (eW : a.f0.size ≤ 9223372036854775807) (fA : a.f1.size ≤ 9223372036854775807) (l : List Int) (hu : ∀ x ∈ l, 0 ≤ x ∧ x < 4294967296) (hlm : l.length ≤ 9223372036854775807) (Al : Option Addr) (cl : Nat) (hcl : l.length ≤ cl) (aff : ByteArray) (hza : aff.size ≤ 9223372036854775807) (he : a.f1.toList ≠ []) (v v2 : Value) (w : World) (base : Nat) (hbase : base ≤ w.heap.size) (hO : ey w base v b) (hR : eU w base v2 b) (hC : Kd.C (Kd.int .u32) w Al l.length l) :
  Calls Try.prog 47 #[v, v2, .agg #[.int .i64 6, .int .i64 n, .string a.f0, .string a.f1, .slice Al l.length cl, .string aff]] w fun e w' => ∃ v1 v2 b', e = .returned (.tuple #[v1, v2, .bool true]) ∧ RG b' ∧ ey w' base v1 b' ∧ eU w' base v2 b' ∧ Below w.heap.size w w' := by
 obtain ⟨hl, vf, va, rfl, hf, ha⟩ := hO
 obtain ⟨vs, vp, vm, rfl, hs, hp, hm⟩ := hR
 obtain ⟨Af, cf, rfl⟩ := Kd.R_slice hf
 obtain ⟨Aa, ca, rfl⟩ := Kd.R_slice ha
 obtain ⟨As, cs, rfl⟩ := Kd.R_slice hs
 obtain ⟨Ap, cp, rfl⟩ := Kd.R_slice hp
 obtain ⟨M, hM⟩ : ∃ M, M = b.attrs.map vc := ⟨_, rfl⟩
 rw [← hM] at hm
 obtain ⟨Am, cm, rfl⟩ := Kd.R_slice hm
 have HL := ak hl
 have HM := ak hM
 have bw := ak hf
 have eh := ak ha
 have aV := ak hs
 have eo := ak hp
 have bS := ak hm
 have HG := ak hg
 have ag := ak (Below.refl w.heap.size w)
 have HBASE := ak hbase
 have HLB := ak (ch (aU b.addr b.aff b.slots (.slice Af b.free.length cf) (.slice Aa b.attrs.length ca)) (ah _ _ _ _ _ HL.out))
 obtain ⟨lt, hlt⟩ : ∃ lt, lt = l.take 80 := ⟨_, rfl⟩
 have hut : ∀ x ∈ lt, 0 ≤ x ∧ x < 4294967296 := fun x hx => hu x (by rw [hlt] at hx; exact List.mem_of_mem_take hx)
 have hll : lt.length = min 80 l.length := by rw [hlt, List.length_take]
 have HCL := ak hcl
 have HLL := ak hll
 have HC := ak hC
 have HCT := ak (fun W (I : Below w.heap.size w W) => (show Kd.C (Kd.int .u32) W Al lt.length lt by
  rcases Nat.lt_or_ge 80 l.length with h | h
  ·have h_ := Kd.C_take (m := 80) (Kd.C_below hC I) (by omega)
   rw [← hlt] at h_
   exact h_
  ·have h_ := Kd.C_below hC I
   have e : lt = l := by rw [hlt, List.take_of_length_le h]
   rw [e]
   exact h_))
 have hp := im hg.right
 have hpq : ((fun x => x.f1.toList == a.f1.toList) : At → Bool) = pG ⟨#[]⟩ a.f1 := by
  funext x
  unfold pG
  have h1 : (a.f1.toList == (⟨#[]⟩ : ByteArray).toList) = false := by simpa using he
  have h2 : ((⟨#[]⟩ : ByteArray).toList == (⟨#[]⟩ : ByteArray).toList) = true := beq_self_eq_true _
  rw [h1, h2]
  simp
 have hbl := fun v w h => EU b hg.ok a.f1 hg.right v w h
 have hgv := fun v w h => yH b hg.ok hp hl ⟨#[]⟩ a.f1 v w h
 rw [hpq] at hbl
 have hur : ∀ x ∈ eD b (pG ⟨#[]⟩ a.f1) 64, 0 ≤ x ∧ x < 4294967296 := oM hg.ok hp.first _
 have hulen := jK b (pG ⟨#[]⟩ a.f1) 64
 obtain ⟨ul, hul⟩ : ∃ ul, ul = eD b (pG ⟨#[]⟩ a.f1) 64 := ⟨_, rfl⟩
 rw [← hul] at hbl hgv hur hulen
 have hrg := hg.rel ul
 have hrl := fun Al cl v w h hC => rE b hg.ok hp hl ul hur (by omega) Al cl v w h hC
 rw [yn hg] at hrl
 obtain ⟨nb, hnb⟩ : ∃ nb, nb = nP b ul := ⟨_, rfl⟩
 obtain ⟨oo, hoo⟩ : ∃ oo, oo = (relL b ul).2 := ⟨_, rfl⟩
 rw [← hnb, ← hoo] at hbl hrl
 rw [← hnb] at hrg
 have hol : oo.length ≤ 1000 := by rw [hoo]; have h_ := (uG hg.ok hp hl ul ul.length (Nat.le_refl _)).ol; rw [List.take_length] at h_; omega
 have HRG := ak hrg
 have HNL := ak hrg.l64
 have HOL := ak hol
 have HLN := fun A8 c8 A9 c9 => ch (aU nb.addr nb.aff nb.slots (.slice A8 nb.free.length c8) (.slice A9 nb.attrs.length c9)) (ah _ _ _ _ _ HNL.out)
 have q0 : (a.f1.toList == []) = false := by simpa using he
 have q1 : a.f1.toList.isEmpty = false := by simpa using he
 have q2 : (a.f1.toList = []) = False := eq_false he
 have HBL := ak hbl
 have HRL := ak hrl
 have HGV := ak hgv
 clear hrg hbl hrl hgv hol hnb hoo hp hpq hur hul hulen he
 clear hl hM hf ha hs hp hm hbase hC hu hut hll hcl hlt hg
 go_enter Try.func47, Try.ntmps47
 go_upto_if 37 with (first
  | (refine aD rfl 57 (.tmp 0) rfl _ rfl ?_; intro gX W1 J aa I; have cg := ge ag J; have ao := ak (ag.out.trans (I.mono ag.out.size)); have bp := mv I bw; have dk := mv I eh; have bb := mv I aV; have dg := mv I eo; have bN := mv I bS; have aj := ak (aa); clear J aa I ag bw eh aV eo bS)
  | (refine aD rfl 62 (.tmp 1) rfl _ rfl ?_; intro gY W2 J aa I; have j8 := ge ao J; have gC := ne aj J; have ay := mv I ao; have bX := mv I bp; have dG := mv I dk; have bK := mv I bb; have di := mv I dg; have cC := mv I bN; have aw := mv I aj; have cA := ak (aa); clear J aa I ao bp dk bb dg bN aj)
  | (refine aD rfl 79 (.tmp 2) rfl _ rfl ?_; intro gT W3 J aa I; have kE := ge ay J; have ie := ne aw J; have iI := ne cA J; have aE := mv I ay; have cy := mv I bX; have dU := mv I dG; have b6 := mv I bK; have dS := mv I di; have da := mv I cC; have aC := mv I aw; have cB := mv I cA; have dN := ak (aa); clear J aa I ay bX dG bK di cC aw cA)
  | (refine au (some 6) rfl rfl 57 rfl a6 bT ?_; intro gZ W4 J aa I; have cb := ge aE J; have aG := ne aC J; have gP := ne cB J; have jS := ne dN J; have a8 := mv I aE; have cx := mv I cy; have dF := mv I dU; have cw := mv I b6; have eb := mv I dS; have cR := mv I da; have aY := mv I aC; have b5 := mv I cB; have dR := mv I dN; have bd := ak (aa); clear J aa I aE cy dU b6 dS da aC cB dN)
  | (refine au (some 7) rfl rfl 62 rfl dH (fun _ => by kernel_rfl) ?_; intro gU W5 J aa I; have fG := ge a8 J; have gR := ne aY J; have dw := ne b5 J; have jT := ne dR J; have gO := ne bd J; have bj := mv I a8; have cj := mv I cx; have cW := mv I dF; have cQ := mv I cw; have ek := mv I eb; have cH := mv I cR; have bc := mv I aY; have cY := mv I b5; have bB := mv I dR; have bI := mv I bd; have eV := ak (aa); have jP := bB.out.cell 0 _ rfl; have ic := bB.out.cell 1 _ rfl; have jO := bB.out.cell 2 _ rfl; have jN := bB.out.cell 3 _ rfl; have jM := bB.out.cell 4 _ rfl; have gN := bB.out.cell 5 _ rfl; clear J aa I a8 cx dF cw eb cR aY b5 dR bd))
 go_cut [9] from 38 to 39 (fun s9 wx => s9 = .slice Al lt.length cl ∧ W5 = wx)
 case first =>
  rcases Nat.lt_or_ge 80 l.length with lY | lY
  ·have lX : decide ((80 : Int) < (l.length : Int)) = true := by simp; omega
   have we : (((0 : Int) ≤ 80 ∧ (80 : Int) ≤ (cl : Int)) = True) := eq_true ⟨by omega, by have := HCL.out; omega⟩
   have wb : (((80 : Int) ≤ (cl : Int)) = True) := eq_true (by have := HCL.out; omega)
   go_wp2_with fail
   go_meet
   exact ⟨by rw [HLL.out, Nat.min_eq_left (by omega)], rfl⟩
  ·have lX : decide ((80 : Int) < (l.length : Int)) = false := by simp; omega
   go_wp2_with fail
   go_meet
   exact ⟨by rw [HLL.out, Nat.min_eq_right (by omega)], rfl⟩
 case rest =>
 obtain ⟨gy, gw⟩ := hcut
 subst gy
 subst gw
 go_wp2_with (first
  | ((with_reducible refine av (N := 178) rfl ?_); refine az rfl 57 (.tmp 3) rfl gX rfl _ _ _ bc.out Try.underlying57 rfl 68 (by kernel_rfl) (ah _ _ _ _ _ HL.out) ?_)
  | (go_at_call 54; refine (HBL.out _ _ ⟨_, _, _, _, rfl, ⟨HL.out, (rr cj).1, (rr cj).2, (rr cW).1, (rr cW).2⟩⟩).mono ?_; rintro e W6 ⟨v_, mE, rfl, aW, fR, I⟩; have HSZ := ak (lb HBASE bj); obtain ⟨kS, sw, sy, rfl, dQ, eE⟩ := aW; obtain ⟨A8, c8, rfl⟩ := Kd.R_slice dQ; obtain ⟨A9, c9, rfl⟩ := Kd.R_slice eE; obtain ⟨Ao, co, rfl⟩ := Kd.R_slice fR; have bO := mv I bj; have cU := mv I cj; have dt := mv I cW; have cZ := mv I cQ; have er := mv I ek; have dE := mv I cH; have bl := mv I bc; have dh := mv I cY; have fy := mv I bB; have bW := mv I bI; have eg := mv I eV; have pB := ak (Kd.R_lower dQ HSZ.out); have pr := ak (Kd.R_lower eE HSZ.out); have nC := ak (Kd.R_lower fR HSZ.out); clear HSZ kS dQ eE fR I bj cj cW cQ ek cH bc cY bB bI eV jP ic jO jN jM gN)
  | (refine au (some 25) rfl rfl 57 rfl a6 bT ?_; intro gQ W7 J aa I; have cE := ge bO J; have bk := ne bl J; have vJ := ne dh J; have vM := ne fy J; have a7 := ne bW J; have vK := ne eg J; have ew := mv I bO; have fu := mv I cU; have j7 := mv I dt; have gE := mv I cZ; have n8 := mv I er; have ky := mv I dE; have dI := mv I bl; have lf := mv I dh; have o6 := mv I fy; have dz := mv I bW; have o5 := mv I eg; have pA := mv I pB; have pq := mv I pr; have kx := mv I nC; have dx := ak (aa); clear J aa I bO cU dt cZ er dE bl dh fy bW eg pB pr nC)
  | (refine aK rfl 57 (.tmp 25) (.tmp 183) rfl gQ (aU nb.addr nb.aff nb.slots (.slice A8 nb.free.length c8) (.slice A9 nb.attrs.length c9)) rfl rfl 57 _ dx.out 68 (by kernel_rfl) (ah _ _ _ _ _ HNL.out) rfl (b7 _ _ _ _ _ rfl rfl) ?_; intro W8 aa J; have iM := gb ew cE J; have kH := gr fu dx J; have kG := gr j7 dx J; have mo := gr gE dx J; have n7 := gr n8 dx J; have oa := gr ky dx J; have iK := gn dI bk J; have nY := gx lf dx J; have nB := gx o6 dx J; have jc := gn dz a7 J; have oZ := gx o5 dx J; have pz := gr pA dx J; have pn := gr pq dx J; have qF := gr kx dx J; have pa := ak (aa); clear aa J ew fu j7 gE n8 ky dI lf o6 dz o5 pA pq kx dx))
 have al : Below W8.heap.size W8 W8.drew := br (Below.refl _ _)
 have lO := mv al iM; have od := mv al kH; have oc := mv al kG; have lN := mv al mo; have n6 := mv al n7; have n9 := mv al oa; have lM := mv al iK; have nz := mv al nY; have nA := mv al nB; have ml := mv al jc; have nZ := mv al oZ; have pw := mv al pz; have ph := mv al pn; have wX := mv al qF; have n2 := mv al pa
 clear al iM kH kG mo n7 oa iK nY nB jc oZ pz pn qF pa
 have hB := lO
 have hF := od
 have hG := oc
 have hS := lN
 have hP := n6
 have hM := n9
 have hX := lM
 have hY := nz
 have hT := nA
 have hZ := ml
 have hU := nZ
 have hC := pw
 have hD := ph
 have hO := wX
 have hQ := n2
 clear lO od oc lN n6 n9 lM nz nA ml nZ pw ph wX n2
 refine dd (n := 13) (S := fun w' => aH w' gY (dj b.addr b.aff (.slice As b.slots.length cs) (.slice Ap b.free.length cp) (.slice Am M.length cm)) 62 ∧ aH w' gT [.int .i64 6, .int .i64 n, .string a.f0, .string a.f1, .slice Al l.length cl, .string aff] 79) (ds := []) #[false, false, false, false, false, false, false, false, false, false, false, false, false] (by kernel_rfl) rfl rfl ⟨hY.out, hT.out⟩ (fun hHeld => ?_); refine bQ sJ.tab28 sJ.bits28 (fun ae bA => ?_)
 refine tk 0 ae.out bA.out hHeld ?_ (hv := by exact fun _ aZ => aQ 62 (.tmp 4) rfl gY rfl _ _ _ aZ.1 Try.underlying62 rfl (by kernel_rfl))
 refine tk 1 ae.out bA.out hHeld ?_ (hv := by exact fun _ aZ => aQ 62 (.tmp 4) rfl gY rfl _ _ _ aZ.1 Try.underlying62 rfl (by kernel_rfl))
 refine pu 2 ae.out ?_
 refine pu 3 ae.out ?_
 refine tk 4 ae.out bA.out hHeld ?_ (hv := by intro w' aZ; have FG := aZ.2.cell 3 _ rfl; go_simp; with_reducible rfl)
 refine qS (σ := Nat × Option Addr × Nat × Value × Value) 2 #[true, true, true, true, true, true, true, true, true, true, true, false, false] (fun s => [(192, .slice s.2.1 ul.length s.2.2.1), (193, .tuple #[s.2.2.2.1, s.2.2.2.2]), (186, .tuple #[s.2.2.2.1, s.2.2.2.2]), (194, s.2.2.2.1), (195, s.2.2.2.2), (28, .pointer (some ⟨s.1, 0, none⟩))]) (fun s w' => Aside0 (Below w.heap.size w w') ∧ Aside0 (Kd.R (Kd.int .u8) 5 w' base (fun _ => True) (.slice Af b.free.length cf) b.free) ∧ Aside0 (Kd.R ju 85 w' base (fun _ => True) (.slice Aa b.attrs.length ca) b.attrs) ∧ Aside0 (Kd.R (Kd.int .i64) 3 w' base (fun _ => True) (.slice As b.slots.length cs) b.slots) ∧ Aside0 (Kd.R (Kd.int .i64) 3 w' base (fun _ => True) (.slice Ap b.free.length cp) b.free) ∧ Aside0 (Kd.R ib 76 w' base (fun _ => True) (.slice Am M.length cm) M) ∧ Aside0 (aH w' gX (aU b.addr b.aff b.slots (.slice Af b.free.length cf) (.slice Aa b.attrs.length ca)) 57) ∧ Aside0 (aH w' gY (dj b.addr b.aff (.slice As b.slots.length cs) (.slice Ap b.free.length cp) (.slice Am M.length cm)) 62) ∧ Aside0 (aH w' gT [.int .i64 6, .int .i64 n, .string a.f0, .string a.f1, .slice Al l.length cl, .string aff] 79) ∧ Aside0 (aH w' gZ a6 57) ∧ Aside0 (aH w' gU dH 62) ∧ Aside0 (Kd.R (Kd.int .u8) 5 w' base (fun _ => True) (.slice A8 nb.free.length c8) nb.free) ∧ Aside0 (Kd.R ju 85 w' base (fun _ => True) (.slice A9 nb.attrs.length c9) nb.attrs) ∧ Aside0 (Kd.R (Kd.int .u32) 46 w' base (fun _ => True) (.slice Ao oo.length co) oo) ∧ Aside0 (aH w' gQ (aU nb.addr nb.aff nb.slots (.slice A8 nb.free.length c8) (.slice A9 nb.attrs.length c9)) 57) ∧ Aside0 (aH w' s.1 dH 62) ∧ Aside0 (w.heap.size ≤ s.1) ∧ Aside0 (gY ≠ s.1) ∧ Aside0 (gU ≠ s.1) ∧ Aside0 (Kd.R (Kd.int .u32) 46 w' base (fun _ => True) (.slice s.2.1 ul.length s.2.2.1) ul) ∧ Aside0 (eU w' base s.2.2.2.1 nb) ∧ Aside0 (Kd.R (Kd.int .u32) 46 w' base (fun _ => True) s.2.2.2.2 oo)) ?_ ?_
 rotate_left
 ·intro eF
  refine tw 5 10 ae.out (fun K hK => ?_) (fun K hK => ?_)
  ·skip
   refine gs Try.func63 #[.agg (dj b.addr b.aff (.slice As b.slots.length cs) (.slice Ap b.free.length cp) (.slice Am M.length cm)).toArray, .string ⟨#[]⟩, .string a.f1] (HGV.out _ _ ⟨M, As, cs, Ap, cp, Am, cm, rfl, (ki.of HM.out hS.out hP.out hM.out)⟩) ?_
   rintro e V5 ⟨Oi, rfl, sd, I⟩
   refine ⟨_, rfl, ?_⟩
   have hL := ak (Kd.R_lower sd (lb HBASE hB)); obtain ⟨Au, cu, rfl⟩ := Kd.R_slice hL.out; (try replace hV := mv I hV); replace hB := mv I hB; replace hF := mv I hF; replace hG := mv I hG; replace hS := mv I hS; replace hP := mv I hP; replace hM := mv I hM; replace hX := mv I hX; replace hY := mv I hY; replace hT := mv I hT; replace hZ := mv I hZ; replace hU := mv I hU; replace hC := mv I hC; replace hD := mv I hD; replace hO := mv I hO; replace hQ := mv I hQ; clear sd I
   refine kn hK ⟨hY.out, hT.out⟩ (fun hHeld => ?_)
   clear hK K
   refine tw 6 10 ae.out (fun K hK => ?_) (fun K hK => ?_)
   ·skip
    refine gs Try.func84 #[.agg (dj b.addr b.aff (.slice As b.slots.length cs) (.slice Ap b.free.length cp) (.slice Am M.length cm)).toArray, .slice Au ul.length cu] (HRL.out _ _ _ _ ⟨M, As, cs, Ap, cp, Am, cm, rfl, (ki.of HM.out hS.out hP.out hM.out)⟩ (Kd.R_reads' hL.out).2.2) ?_
    rintro e V6 ⟨v9, ru, rfl, eG, kR, I⟩
    refine ⟨_, rfl, ?_⟩
    have kV := ak (eU.lower' eG (lb HBASE hB)); have dr := ak (Kd.R_lower kR (lb HBASE hB)); (try replace hL := mv I hL); (try replace hV := mv I hV); replace hB := mv I hB; replace hF := mv I hF; replace hG := mv I hG; replace hS := mv I hS; replace hP := mv I hP; replace hM := mv I hM; replace hX := mv I hX; replace hY := mv I hY; replace hT := mv I hT; replace hZ := mv I hZ; replace hU := mv I hU; replace hC := mv I hC; replace hD := mv I hD; replace hO := mv I hO; replace hQ := mv I hQ; clear eG kR I
    refine kn hK ⟨hY.out, hT.out⟩ (fun hHeld => ?_)
    clear hK K
    refine pu 7 ae.out ?_
    refine pu 8 ae.out ?_
    refine pu 9 ae.out ?_
    refine on 10 ae.out (fun K hK => ?_)
    refine dO (by rfl) 62 rfl dH (fun _ => by kernel_rfl) ?_
    intro gV y7 J aa I
    have db := ge hB J
    have eN := ne hY J
    have ef := ne hU J
    (try replace hL := mv I hL)
    (try replace kV := mv I kV)
    (try replace dr := mv I dr)
    replace hB := mv I hB
    replace hF := mv I hF
    replace hG := mv I hG
    replace hS := mv I hS
    replace hP := mv I hP
    replace hM := mv I hM
    replace hX := mv I hX
    replace hY := mv I hY
    replace hT := mv I hT
    replace hZ := mv I hZ
    replace hU := mv I hU
    replace hC := mv I hC
    replace hD := mv I hD
    replace hO := mv I hO
    replace hQ := mv I hQ
    have hV := ak aa
    clear J aa I
    refine kn hK ⟨hY.out, hT.out⟩ (fun hHeld => ?_)
    clear hK K
    exact nc (eF ⟨gV, Au, cu, v9, ru⟩ _ ⟨hB, hF, hG, hS, hP, hM, hX, hY, hT, hZ, hU, hC, hD, hO, hQ, hV, db, eN, ef, hL, kV, dr⟩)
   ·skip
    refine dO (by rfl) 62 rfl dH (fun _ => by kernel_rfl) ?_
    intro gV y7 J aa I
    have db := ge hB J
    have eN := ne hY J
    have ef := ne hU J
    (try replace hL := mv I hL)
    (try replace kV := mv I kV)
    (try replace dr := mv I dr)
    replace hB := mv I hB
    replace hF := mv I hF
    replace hG := mv I hG
    replace hS := mv I hS
    replace hP := mv I hP
    replace hM := mv I hM
    replace hX := mv I hX
    replace hY := mv I hY
    replace hT := mv I hT
    replace hZ := mv I hZ
    replace hU := mv I hU
    replace hC := mv I hC
    replace hD := mv I hD
    replace hO := mv I hO
    replace hQ := mv I hQ
    have hV := ak aa
    clear J aa I
    refine kn hK ⟨hY.out, hT.out⟩ (fun hHeld => ?_)
    clear hK K
    refine on 6 ae.out (fun K hK => ?_)
    refine gs Try.func84 #[.agg (dj b.addr b.aff (.slice As b.slots.length cs) (.slice Ap b.free.length cp) (.slice Am M.length cm)).toArray, .slice Au ul.length cu] (HRL.out _ _ _ _ ⟨M, As, cs, Ap, cp, Am, cm, rfl, (ki.of HM.out hS.out hP.out hM.out)⟩ (Kd.R_reads' hL.out).2.2) ?_
    rintro e V6 ⟨v9, ru, rfl, eG, kR, I⟩
    refine ⟨_, rfl, ?_⟩
    have kV := ak (eU.lower' eG (lb HBASE hB)); have dr := ak (Kd.R_lower kR (lb HBASE hB)); (try replace hL := mv I hL); (try replace hV := mv I hV); replace hB := mv I hB; replace hF := mv I hF; replace hG := mv I hG; replace hS := mv I hS; replace hP := mv I hP; replace hM := mv I hM; replace hX := mv I hX; replace hY := mv I hY; replace hT := mv I hT; replace hZ := mv I hZ; replace hU := mv I hU; replace hC := mv I hC; replace hD := mv I hD; replace hO := mv I hO; replace hQ := mv I hQ; clear eG kR I
    refine kn hK ⟨hY.out, hT.out⟩ (fun hHeld => ?_)
    clear hK K
    refine pu 7 ae.out ?_
    refine pu 8 ae.out ?_
    refine pu 9 ae.out ?_
    exact nc (eF ⟨gV, Au, cu, v9, ru⟩ _ ⟨hB, hF, hG, hS, hP, hM, hX, hY, hT, hZ, hU, hC, hD, hO, hQ, hV, db, eN, ef, hL, kV, dr⟩)
  ·skip
   refine dO (by rfl) 62 rfl dH (fun _ => by kernel_rfl) ?_
   intro gV y7 J aa I
   have db := ge hB J
   have eN := ne hY J
   have ef := ne hU J
   (try replace hL := mv I hL)
   (try replace kV := mv I kV)
   (try replace dr := mv I dr)
   replace hB := mv I hB
   replace hF := mv I hF
   replace hG := mv I hG
   replace hS := mv I hS
   replace hP := mv I hP
   replace hM := mv I hM
   replace hX := mv I hX
   replace hY := mv I hY
   replace hT := mv I hT
   replace hZ := mv I hZ
   replace hU := mv I hU
   replace hC := mv I hC
   replace hD := mv I hD
   replace hO := mv I hO
   replace hQ := mv I hQ
   have hV := ak aa
   clear J aa I
   refine kn hK ⟨hY.out, hT.out⟩ (fun hHeld => ?_)
   clear hK K
   refine on 5 ae.out (fun K hK => ?_)
   refine gs Try.func63 #[.agg (dj b.addr b.aff (.slice As b.slots.length cs) (.slice Ap b.free.length cp) (.slice Am M.length cm)).toArray, .string ⟨#[]⟩, .string a.f1] (HGV.out _ _ ⟨M, As, cs, Ap, cp, Am, cm, rfl, (ki.of HM.out hS.out hP.out hM.out)⟩) ?_
   rintro e V5 ⟨Oi, rfl, sd, I⟩
   refine ⟨_, rfl, ?_⟩
   have hL := ak (Kd.R_lower sd (lb HBASE hB)); obtain ⟨Au, cu, rfl⟩ := Kd.R_slice hL.out; (try replace hV := mv I hV); replace hB := mv I hB; replace hF := mv I hF; replace hG := mv I hG; replace hS := mv I hS; replace hP := mv I hP; replace hM := mv I hM; replace hX := mv I hX; replace hY := mv I hY; replace hT := mv I hT; replace hZ := mv I hZ; replace hU := mv I hU; replace hC := mv I hC; replace hD := mv I hD; replace hO := mv I hO; replace hQ := mv I hQ; clear sd I
   refine kn hK ⟨hY.out, hT.out⟩ (fun hHeld => ?_)
   clear hK K
   refine on 6 ae.out (fun K hK => ?_)
   refine gs Try.func84 #[.agg (dj b.addr b.aff (.slice As b.slots.length cs) (.slice Ap b.free.length cp) (.slice Am M.length cm)).toArray, .slice Au ul.length cu] (HRL.out _ _ _ _ ⟨M, As, cs, Ap, cp, Am, cm, rfl, (ki.of HM.out hS.out hP.out hM.out)⟩ (Kd.R_reads' hL.out).2.2) ?_
   rintro e V6 ⟨v9, ru, rfl, eG, kR, I⟩
   refine ⟨_, rfl, ?_⟩
   have kV := ak (eU.lower' eG (lb HBASE hB)); have dr := ak (Kd.R_lower kR (lb HBASE hB)); (try replace hL := mv I hL); (try replace hV := mv I hV); replace hB := mv I hB; replace hF := mv I hF; replace hG := mv I hG; replace hS := mv I hS; replace hP := mv I hP; replace hM := mv I hM; replace hX := mv I hX; replace hY := mv I hY; replace hT := mv I hT; replace hZ := mv I hZ; replace hU := mv I hU; replace hC := mv I hC; replace hD := mv I hD; replace hO := mv I hO; replace hQ := mv I hQ; clear eG kR I
   refine kn hK ⟨hY.out, hT.out⟩ (fun hHeld => ?_)
   clear hK K
   refine pu 7 ae.out ?_
   refine pu 8 ae.out ?_
   refine pu 9 ae.out ?_
   exact nc (eF ⟨gV, Au, cu, v9, ru⟩ _ ⟨hB, hF, hG, hS, hP, hM, hX, hY, hT, hZ, hU, hC, hD, hO, hQ, hV, db, eN, ef, hL, kV, dr⟩)
 intro s w' hFF; obtain ⟨gV, Au, cu, v9, ru⟩ := s; simp only at hFF; obtain ⟨hB, hF, hG, hS, hP, hM, hX, hY, hT, hZ, hU, hC, hD, hO, hQ, hV, db, eN, ef, hL, kV, dr⟩ := hFF; have eG := kV.out; obtain ⟨wz, sx, sA, rfl, gz, fp, eH⟩ := eG; obtain ⟨A1, c1, rfl⟩ := Kd.R_slice gz; obtain ⟨A2, c2, rfl⟩ := Kd.R_slice fp; obtain ⟨NM, hNM⟩ : ∃ NM, NM = nb.attrs.map vc := ⟨_, rfl⟩; rw [← hNM] at eH; have HNM := ak hNM; obtain ⟨A3, c3, rfl⟩ := Kd.R_slice eH; obtain ⟨EK, DX, rfl⟩ := Kd.R_slice dr.out; have hI := ak gz; have hJ := ak fp; have hE := ak eH; have gL := dr; clear hL kV dr hNM gz fp eH
 refine nj ?_
 refine ow 11 ae.out (fun K hK => ?_)
 refine bJ (by rfl) rfl 62 (.tmp 28) (.tmp 194) rfl gV (dj nb.addr nb.aff (.slice A1 nb.slots.length c1) (.slice A2 nb.free.length c2) (.slice A3 NM.length c3)) rfl rfl 62 _ hV.out 5 (by kernel_rfl) rfl rfl (dM _ _ rfl rfl rfl) ?_
 intro qx aa J; replace hB := gb hB db J; replace hF := gr hF hV J; replace hG := gr hG hV J; replace hS := gr hS hV J; replace hP := gr hP hV J; replace hM := gr hM hV J; replace hX := gx hX hV J; replace hY := gn hY eN J; replace hT := gx hT hV J; replace hZ := gx hZ hV J; replace hU := gn hU ef J; replace hC := gr hC hV J; replace hD := gr hD hV J; replace hO := gr hO hV J; replace hQ := gx hQ hV J; replace hI := gr hI hV J; replace hJ := gr hJ hV J; replace hE := gr hE hV J; replace gL := gr gL hV J; replace hV := ak (aa); clear aa J
 refine hK.out _ _ ⟨hY.out, hT.out⟩ (fun hHeld => ?_)
 clear hK K
 refine pu 12 ae.out ?_
 refine dn ae.out ?_
 clear hHeld
 go_wp2_with fail
 have al : Below qx.heap.size qx qx.drew := br (Below.refl _ _)
 have Az := mv al hB; have z3 := mv al hF; have zV := mv al hG; have zt := mv al hS; have zC := mv al hP; have zJ := mv al hM; have zk := mv al hX; have zg := mv al hY; have zr := mv al hT; have zd := mv al hZ; have zn := mv al hU; have Aj := mv al hC; have Ae := mv al hD; have zG := mv al hO; have zy := mv al hQ; have zm := mv al hV; have zS := mv al hI; have zO := mv al hJ; have z9 := mv al hE; have wZ := mv al gL
 clear al hB hF hG hS hP hM hX hY hT hZ hU hC hD hO hQ hV hI hJ hE gL
 have hB := Az
 have hF := z3
 have hG := zV
 have hS := zt
 have hP := zC
 have hM := zJ
 have hX := zk
 have hY := zg
 have hT := zr
 have hZ := zd
 have hU := zn
 have hC := Aj
 have hD := Ae
 have hO := zG
 have hQ := zy
 have hV := zm
 have hI := zS
 have hJ := zO
 have hE := z9
 have gL := wZ
 clear Az z3 zV zt zC zJ zk zg zr zd zn Aj Ae zG zy zm zS zO z9 wZ
 refine dd (n := 12) (S := fun w' => aH w' gQ (aU nb.addr nb.aff nb.slots (.slice A8 nb.free.length c8) (.slice A9 nb.attrs.length c9)) 57 ∧ aH w' gV (dj nb.addr nb.aff (.slice A1 nb.slots.length c1) (.slice A2 nb.free.length c2) (.slice A3 NM.length c3)) 62) (ds := []) #[false, false, false, false, false, false, false, false, false, false, false, false] (by kernel_rfl) rfl rfl ⟨hQ.out, hV.out⟩ (fun hHeld => ?_); refine bQ sI.tab29 sI.bits29 (fun ae bA => ?_)
 refine tk 0 ae.out bA.out hHeld ?_ (hv := by exact fun _ aZ => aQ 57 (.tmp 25) rfl gQ rfl _ _ _ aZ.1 Try.underlying57 rfl (HLN _ _ _ _))
 refine tk 1 ae.out bA.out hHeld ?_ (hv := by exact fun _ aZ => aQ 62 (.tmp 28) rfl gV rfl _ _ _ aZ.2 Try.underlying62 rfl (by kernel_rfl))
 refine pu 2 ae.out ?_
 refine pu 3 ae.out ?_
 refine pu 4 ae.out ?_
 refine pu 5 ae.out ?_
 refine pu 6 ae.out ?_
 refine on 7 ae.out (fun K hK => ?_)
 refine gs Try.func61 #[(.slice Ao oo.length co), (.slice EK oo.length DX)] (qY oo HOL.out _ _ _ _ _ (Kd.R_reads' hO.out).2.2 (Kd.R_reads' hO.out).2.1 (Kd.R_reads' gL.out).2.2 (Kd.R_reads' gL.out).2.1) ?_
 rintro e V7 ⟨rfl, I⟩
 refine ⟨_, rfl, ?_⟩
 replace hB := mv I hB; replace hF := mv I hF; replace hG := mv I hG; replace hS := mv I hS; replace hP := mv I hP; replace hM := mv I hM; replace hX := mv I hX; replace hY := mv I hY; replace hT := mv I hT; replace hZ := mv I hZ; replace hU := mv I hU; replace hC := mv I hC; replace hD := mv I hD; replace hO := mv I hO; replace hQ := mv I hQ; replace hV := mv I hV; replace hI := mv I hI; replace hJ := mv I hJ; replace hE := mv I hE; replace gL := mv I gL
 refine kn hK ⟨hQ.out, hV.out⟩ (fun hHeld => ?_)
 clear hK K
 refine pu 8 ae.out ?_
 refine ow 9 ae.out (fun K hK => ?_)
 refine bJ (by rfl) rfl 57 (.tmp 6) (.tmp 196) rfl gZ (aU nb.addr nb.aff nb.slots (.slice A8 nb.free.length c8) (.slice A9 nb.attrs.length c9)) rfl rfl 57 _ hZ.out 68 (by kernel_rfl) (ah _ _ _ _ _ HNL.out) rfl (b7 _ _ _ _ _ rfl rfl) ?_
 intro V9 aa J; replace hB := gb hB cb J; replace hF := gr hF hZ J; replace hG := gr hG hZ J; replace hS := gr hS hZ J; replace hP := gr hP hZ J; replace hM := gr hM hZ J; replace hX := gn hX aG J; replace hY := gx hY hZ J; replace hT := gx hT hZ J; replace hU := gx hU hZ J; replace hC := gr hC hZ J; replace hD := gr hD hZ J; replace hO := gr hO hZ J; replace hQ := gm hQ a7 J; replace hV := gx hV hZ J; replace hI := gr hI hZ J; replace hJ := gr hJ hZ J; replace hE := gr hE hZ J; replace gL := gr gL hZ J; replace hZ := ak (aa); clear aa J
 refine hK.out _ _ ⟨hQ.out, hV.out⟩ (fun hHeld => ?_)
 clear hK K
 refine ow 10 ae.out (fun K hK => ?_)
 refine bJ (by rfl) rfl 62 (.tmp 7) (.tmp 197) rfl gU (dj nb.addr nb.aff (.slice A1 nb.slots.length c1) (.slice A2 nb.free.length c2) (.slice A3 NM.length c3)) rfl rfl 62 _ hU.out 5 (by kernel_rfl) rfl rfl (dM _ _ rfl rfl rfl) ?_
 intro y7 aa J; replace hB := gb hB fG J; replace hF := gr hF hU J; replace hG := gr hG hU J; replace hS := gr hS hU J; replace hP := gr hP hU J; replace hM := gr hM hU J; replace hX := gx hX hU J; replace hY := gn hY dw J; replace hT := gx hT hU J; replace hZ := gx hZ hU J; replace hC := gr hC hU J; replace hD := gr hD hU J; replace hO := gr hO hU J; replace hQ := gx hQ hU J; replace hV := gm hV ef J; replace hI := gr hI hU J; replace hJ := gr hJ hU J; replace hE := gr hE hU J; replace gL := gr gL hU J; replace hU := ak (aa); clear aa J
 refine hK.out _ _ ⟨hQ.out, hV.out⟩ (fun hHeld => ?_)
 clear hK K
 refine pu 11 ae.out ?_
 refine dn ae.out ?_
 clear hHeld
 go_wp2_with fail
 refine bodyPost_ret (e6 rfl _ _ _ gZ gU 57 62 _ _ _ _ rfl hZ.out rfl Try.underlying57 (by first | exact HLB.out | exact HLN _ _ _ _) rfl hU.out rfl Try.underlying62 (by kernel_rfl)) rfl ⟨_, _, nb, rfl, ?_, ?_, ?_, hB.out⟩
 ·exact HRG.out
 ·exact ⟨HNL.out, _, _, rfl, hC.out, hD.out⟩
 ·exact ⟨_, _, _, rfl, hI.out, hJ.out, by rw [← HNM.out]; exact hE.out⟩
end Go.Proofs.Ytemhalnhbgkbcaa.V
end

section
namespace Go.Proofs.Ytemhalnhbgkbcaa.V
theorem PH (b : Bk) (hg : RG b) (kd : Int) (n : Int) (hn : n < 9223372036854775808) (a : ln) (eW : a.f0.size ≤ 9223372036854775807) (fA : a.f1.size ≤ 9223372036854775807) (l : List Int) (hu : ∀ x ∈ l, 0 ≤ x ∧ x < 4294967296) (hlm : l.length ≤ 9223372036854775807) (Al : Option Addr) (cl : Nat) (hcl : l.length ≤ cl) (aff : ByteArray) (hza : aff.size ≤ 9223372036854775807) (v v2 : Value) (w : World) (base : Nat) (hbase : base ≤ w.heap.size) (hO : ey w base v b) (hR : eU w base v2 b) (hC : Kd.C (Kd.int .u32) w Al l.length l) :
  Calls Try.prog 47 #[v, v2, .agg #[.int .i64 kd, .int .i64 n, .string a.f0, .string a.f1, .slice Al l.length cl, .string aff]] w fun e w' => ∃ v1 v2 b', e = .returned (.tuple #[v1, v2, .bool true]) ∧ RG b' ∧ ey w' base v1 b' ∧ eU w' base v2 b' ∧ Below w.heap.size w w' := by
 by_cases k0 : kd = 0 ∨ kd = 1
 ·cases hma : ep (cv a) with
  | false => exact NF b hg kd k0 n hn a eW fA l hu hlm Al cl hcl aff hza hma v v2 w base hbase hO hR hC
  | true =>
   rcases Int.lt_or_le n 0 with lT | lT
   ·exact ND b hg kd k0 n hn a eW fA l hu hlm Al cl hcl aff hza hma lT v v2 w base hbase hO hR hC
   ·exact PG b hg kd k0 n hn a eW fA l hu hlm Al cl hcl aff hza hma lT v v2 w base hbase hO hR hC
 by_cases k2 : kd = 2 ∨ kd = 3
 ·rcases Nat.eq_zero_or_pos l.length with he | he
  ·exact PF b hg kd k2 n hn a eW fA l hu hlm Al cl hcl aff hza (List.length_eq_zero_iff.1 he) v v2 w base hbase hO hR hC
  ·exact Rk b hg kd k2 n hn a eW fA l hu hlm Al cl hcl aff hza he v v2 w base hbase hO hR hC
 by_cases k4 : kd = 4
 ·subst k4
  exact PD b hg n hn a eW fA l hu hlm Al cl hcl aff hza v v2 w base hbase hO hR hC
 by_cases k5 : kd = 5
 ·subst k5
  by_cases he : a.f0.toList = []
  ·exact Ku b hg n hn a eW fA l hu hlm Al cl hcl aff hza he v v2 w base hbase hO hR hC
  ·exact NC b hg n hn a eW fA l hu hlm Al cl hcl aff hza he v v2 w base hbase hO hR hC
 by_cases k6 : kd = 6
 ·subst k6
  by_cases he : a.f1.toList = []
  ·exact Kt b hg n hn a eW fA l hu hlm Al cl hcl aff hza he v v2 w base hbase hO hR hC
  ·exact NB b hg n hn a eW fA l hu hlm Al cl hcl aff hza he v v2 w base hbase hO hR hC
 by_cases k7 : kd = 7
 ·subst k7
  cases how : fS aff with
  | true => exact PE b hg n hn a eW fA l hu hlm Al cl hcl aff hza how v v2 w base hbase hO hR hC
  | false => exact NA b hg n hn a eW fA l hu hlm Al cl hcl aff hza how v v2 w base hbase hO hR hC
 exact Ks b hg kd n hn a eW fA l hu hlm Al cl hcl aff hza ⟨by omega, by omega, by omega, by omega, k4, k5, k6, k7⟩ v v2 w base hbase hO hR hC
end Go.Proofs.Ytemhalnhbgkbcaa.V
end

section
namespace Go.Proofs.Ytemhalnhbgkbcaa.V
open Go.ChangeShapes Go.WideShapes
set_option maxRecDepth 100000
theorem CJ {z : Int} (h : (Lit.int .u32 z).wf = true) : 0 ≤ z ∧ z < 4294967296 := by
 have : 0 ≤ z ∧ z ≤ 4294967295 := by simpa [Lit.wf, IntKind.min, IntKind.max, IntKind.signed, IntKind.bits] using h
 omega
theorem FC {α : Type} (P : Nat → α → Prop) : ∀ n, (∀ i, i < n → ∃ a, P i a) → ∃ xs : List α, xs.length = n ∧ ∀ i a, xs[i]? = some a → P i a
 | 0, _ => ⟨[], rfl, by simp⟩
 | n + 1, h => by
  obtain ⟨xs, h1, h2⟩ := FC P n (fun i hi => h i (by omega))
  obtain ⟨a, ha⟩ := h n (by omega)
  refine ⟨xs ++ [a], by simp [h1], fun i b hb => ?_⟩
  rcases Nat.lt_trichotomy i n with hi | hi | hi
  ·rw [List.getElem?_append_left (by omega)] at hb
   exact h2 i b hb
  ·subst hi
   rw [← h1, List.getElem?_concat_length] at hb
   obtain rfl := Option.some.inj hb
   exact ha
  ·rw [List.getElem?_eq_none (by simp; omega)] at hb
   cases hb
section
variable {H : Type} {enc : TypeId × Value → H} {w : World} {base b0 : Nat} {held : Bool}
end
end Go.Proofs.Ytemhalnhbgkbcaa.V
end

section
namespace Go.Proofs.Ytemhalnhbgkbcaa.V
open Go.ChangeShapes Go.WideShapes
set_option maxRecDepth 100000
structure St where
 kd : Int
 n : Int
 a : S76
 l : List Int
 A : Option Addr
 c : Nat
 aff : ByteArray
def St.cells (s : St) : List Value := [.int .i64 s.kd, .int .i64 s.n, .string s.a.f0, .string s.a.f1, .slice s.A s.l.length s.c, .string s.aff]
structure St.Ok (w : World) (s : St) : Prop where
 n : s.n < 9223372036854775808
 z0 : s.a.f0.size ≤ 9223372036854775807
 z1 : s.a.f1.size ≤ 9223372036854775807
 u : ∀ x ∈ s.l, 0 ≤ x ∧ x < 4294967296
 lm : s.l.length ≤ 9223372036854775807
 lc : s.l.length ≤ s.c
 r : Kd.C (Kd.int .u32) w s.A s.l.length s.l
 za : s.aff.size ≤ 9223372036854775807
def K3 : St := ⟨0, 0, ⟨⟨#[]⟩, ⟨#[]⟩⟩, [], none, 0, ⟨#[]⟩⟩
structure StepsIs (w : World) (v : Value) (l : List St) : Prop where
 lm : l.length ≤ 9223372036854775807
 ok : ∀ s ∈ l, s.Ok w
 v : ∃ A c, v = .slice A l.length c ∧ l.length ≤ c ∧ ∀ i, i < l.length → ∃ ad, A = some ad ∧ ∀ j u, (l.getD i K3).cells[j]? = some u → w.cell? (ad.add (i * 6 + j)) = some u
section
variable {H : Type} {enc : TypeId × Value → H} {w : World} {base b0 : Nat} {held : Bool}
theorem Ia {cs : List Value} {fuel : Nat} {x : DataW H × List MemPlace} (h : DataW.trod enc Try.prog w base (fun _ => true) held fuel 79 cs = some x) : ∃ s : St, s.Ok w ∧ cs = s.cells := by
 obtain ⟨xs, k, hk, hxy, hl, hxl, hfd⟩ := DataW.trod_struct Try.underlying79 h
 have hsz : cs.length = 6 := hl.trans (by kernel_rfl)
 have g0 := hfd 0 _ rfl
 have g1 := hfd 1 _ rfl
 have g2 := hfd 2 _ rfl
 have g3 := hfd 3 _ rfl
 have g4 := hfd 4 _ rfl
 have IA : xs.length = 5 := hxl
 have y0 : ∃ y, xs[0]? = some y := ⟨_, List.getElem?_eq_getElem (by omega)⟩
 have y1 : ∃ y, xs[1]? = some y := ⟨_, List.getElem?_eq_getElem (by omega)⟩
 have y2 : ∃ y, xs[2]? = some y := ⟨_, List.getElem?_eq_getElem (by omega)⟩
 have y3 : ∃ y, xs[3]? = some y := ⟨_, List.getElem?_eq_getElem (by omega)⟩
 have y4 : ∃ y, xs[4]? = some y := ⟨_, List.getElem?_eq_getElem (by omega)⟩
 obtain ⟨q0, y0⟩ := y0; obtain ⟨q1, y1⟩ := y1; obtain ⟨q2, y2⟩ := y2; obtain ⟨q3, y3⟩ := y3; obtain ⟨q4, y4⟩ := y4
 rw [y0] at g0; rw [y1] at g1; rw [y2] at g2; rw [y3] at g3; rw [y4] at g4
 have c3 : Try.prog.cellsOf 3 = 1 := by kernel_rfl
 have c9 : Try.prog.cellsOf 9 = 1 := by kernel_rfl
 have cL : Try.prog.cellsOf 77 = 1 := by kernel_rfl
 have cu : Try.prog.cellsOf 46 = 1 := by kernel_rfl
 have XW : Try.prog.cellsOf 76 = 2 := by kernel_rfl
 obtain ⟨z0, e0, _, w0⟩ := DataW.trod_int Try.underlying3 g0
 obtain ⟨z1, e1, _, w1⟩ := DataW.trod_int Try.underlying3 g1
 obtain ⟨p0, p1, n, _, _, h0, h1⟩ := trod_struct2 Try.underlying76 g2
 obtain ⟨s0, u0, _, v0⟩ := DataW.trod_string Try.underlying9 h0
 obtain ⟨s1, u1, _, v1⟩ := DataW.trod_string Try.underlying9 h1
 obtain ⟨s2, u2, _, v2⟩ := DataW.trod_string Try.underlying9 g4
 match cs, hsz with
 | [a0, a1, a2, a3, a4, a5], _ =>
  have S5 : ([a0, a1, a2, a3, a4, a5].drop 0).take (Try.prog.cellsOf 3) = [Value.int .i64 z0] := e0
  have S4 : ([a0, a1, a2, a3, a4, a5].drop 1).take (Try.prog.cellsOf 3) = [Value.int .i64 z1] := e1
  have SE : ((([a0, a1, a2, a3, a4, a5].drop 2).take (Try.prog.cellsOf 76)).drop 0).take (Try.prog.cellsOf 9) = [Value.string s0] := u0
  have SD : ((([a0, a1, a2, a3, a4, a5].drop 2).take (Try.prog.cellsOf 76)).drop 1).take (Try.prog.cellsOf 9) = [Value.string s1] := u1
  have SB : ([a0, a1, a2, a3, a4, a5].drop 5).take (Try.prog.cellsOf 9) = [Value.string s2] := u2
  rw [c3] at S5 S4
  rw [XW, c9] at SE SD
  rw [c9] at SB
  obtain rfl : a0 = Value.int .i64 z0 := by simpa using S5
  obtain rfl : a1 = Value.int .i64 z1 := by simpa using S4
  obtain rfl : a2 = Value.string s0 := by simpa using SE
  obtain rfl : a3 = Value.string s1 := by simpa using SD
  obtain rfl : a5 = Value.string s2 := by simpa using SB
  obtain ⟨A, c, fr, e3, hfc, hcm, hfC, Xp⟩ : ∃ (A : Option Addr) (c : Nat) (fr : List Int), a4 = Value.slice A fr.length c ∧ fr.length ≤ c ∧ c ≤ maxLen ∧ Kd.C (Kd.int .u32) w A fr.length fr ∧ ∀ x ∈ fr, 0 ≤ x ∧ x < 4294967296 := by
   rcases open_ints Try.underlying77 Try.underlying46 cu g3 with ⟨hcs, _⟩ | ⟨x, l, c, ys, hcs, _, hl, hm, hy, _, hcell, hwy⟩
   ·have hcs' : ([Value.int .i64 z0, Value.int .i64 z1, Value.string s0, Value.string s1, a4, Value.string s2].drop 4).take (Try.prog.cellsOf 77) = [.slice none 0 0] := hcs
    rw [cL] at hcs'
    exact ⟨none, 0, [], by simpa using hcs', Nat.le_refl _, by unfold maxLen; omega, Kd.C_nil _ _, by intro x hx; cases hx⟩
   ·have hcs' : ([Value.int .i64 z0, Value.int .i64 z1, Value.string s0, Value.string s1, a4, Value.string s2].drop 4).take (Try.prog.cellsOf 77) = [.slice (some x) l c] := hcs
    rw [cL] at hcs'
    rw [if_pos rfl] at hy
    have hlen : (ys.take l).length = l := by rw [List.length_take]; omega
    refine ⟨some x, c, ys.take l, by rw [hlen]; simpa using hcs', by omega, hm, ?_, fun n hn => CJ (hwy n (List.mem_of_mem_take hn))⟩
    refine Kd.C_of_reads (enc := Value.int .u32) (d := 0) (h1 := fun _ => rfl) ⟨rfl, by unfold maxLen at hm; omega, fun _ => ⟨x, rfl, fun j hj => ?_⟩⟩
    rw [hlen] at hj
    rw [hcell j (by omega)]
    congr 2
    simp only [List.getD_eq_getElem?_getD, List.getElem?_take, hj, if_true]
  subst e3
  have Wx : z1 < 9223372036854775808 := by
   have : -9223372036854775808 ≤ z1 ∧ z1 ≤ 9223372036854775807 := by simpa [Lit.wf, IntKind.min, IntKind.max, IntKind.signed, IntKind.bits] using w1
   omega
  refine ⟨⟨z0, z1, ⟨s0, s1⟩, fr, A, c, s2⟩, ⟨Wx, by unfold maxLen at v0; exact v0, by unfold maxLen at v1; exact v1, Xp, by unfold maxLen at hcm; show fr.length ≤ _; omega, hfc, hfC, by unfold maxLen at v2; exact v2⟩, rfl⟩
theorem open_steps {v : Value} {d : DataW H} {ps : List MemPlace} (hval : Value.okWide Try.prog w .any b0 70 v) (hd : DataW.Trod enc Try.prog w base (fun _ => true) held 70 v d ps) : ∃ l : List St, StepsIs w v l := by
 obtain ⟨A, l, c, rfl⟩ := okWide_slice Try.underlying70 hval
 obtain ⟨fuel, hf⟩ := hd
 have XV : Try.prog.cellsOf 79 = 6 := by kernel_rfl
 rcases Go.Deep.open_slice Try.underlying70 hf with ⟨hcs, _⟩ | ⟨x, len, cap, m, n, D, Pl, hcs, _, hl, hm, hmm, _, hel⟩
 ·simp [Value.cells] at hcs
  obtain ⟨rfl, rfl, rfl⟩ := hcs
  exact ⟨[], by simp, (by intro s hs; cases hs), none, 0, rfl, Nat.le_refl _, fun i hi => by simp at hi⟩
 ·simp [Value.cells] at hcs
  obtain ⟨rfl, rfl, rfl⟩ := hcs
  rw [if_pos rfl] at hmm
  obtain ⟨ys, BN, vY⟩ := FC (fun i (s : St) => s.Ok w ∧ ∀ j u, s.cells[j]? = some u → w.cell? (x.add (i * 6 + j)) = some u) l (fun i hi => by
   obtain ⟨cs, h1, h2⟩ := hel i (by omega)
   obtain ⟨s, hs, rfl⟩ := Ia h2
   obtain ⟨_, hlen, hc⟩ := World.cells?_some h1
   rw [XV] at hc
   refine ⟨s, hs, fun j u hu => ?_⟩
   have hj : j < 6 := by
    have := (List.getElem?_eq_some_iff.1 hu).1
    exact this
   rw [← hu, ← hc j hj, Go.Deep.add_add])
  refine ⟨ys, by rw [BN]; unfold maxLen at hm; omega, fun s hs => ?_, some x, c, by rw [BN], by omega, fun i hi => ⟨x, rfl, ?_⟩⟩
  ·obtain ⟨j, hj, rfl⟩ := List.getElem_of_mem hs
   exact (vY j _ (List.getElem?_eq_getElem hj)).1
  ·have h2 : ys.getD i K3 = ys[i] := by simp [List.getD, hi]
   rw [h2]
   exact (vY i _ (List.getElem?_eq_getElem hi)).2
end
end Go.Proofs.Ytemhalnhbgkbcaa.V
end

section
namespace Go.Proofs.Ytemhalnhbgkbcaa.V
attribute [local go_sem] ea dY eB ez dq dp dZ dX
def dv.l0 : Nat → Int → Int → ByteArray → List Int → List Int → Option (Int × ByteArray × List Int × List Int × (List (S76)))
 | 0, _, _, _, _, _ => none
 | k + 1, x6, Bw, Bv, wu, wq => if x6 < 64 then (if wu.length < 17592186044416 then (if wq.length < 17592186044416 then (dv.l0 k (wrap64 (x6 + 1)) Bw Bv (wu ++ [0]) (wq ++ [x6])) else (none)) else (none)) else (some (Bw, Bv, wu, wq, ([] : List (S76))))
def dv.f (k : Nat) (a0 : Int) (a1 : ByteArray) : Option (Int × ByteArray × List Int × List Int × (List (S76))) := dv.l0 k 0 ((a0 - (Int.tmod a0 64)) % 4294967296) a1 ([] : List Int) ([] : List Int)
set_option maxHeartbeats 8000000 in
set_option maxRecDepth 100000 in
theorem dv.calls (k : Nat) (a0 : Int) (a1 : ByteArray) (r1 : Int) (r2 : ByteArray) (r3 : List Int) (r4 : List Int) (r5 : List (S76)) (w : World) (h : dv.f k a0 a1 = some (r1, r2, r3, r4, r5)) :
  Calls Try.prog 45 #[.int .u32 a0, .string a1] w fun e w' => ∃ CF CE Hi : Value, e = .returned (.agg #[.int .u32 r1, .string r2, CF, CE, Hi]) ∧ Kd.R (Kd.int .i64) 3 w' w.heap.size (fun k_ => some k_ ≠ (CE : Value).ownBlock) CF r3 ∧ Kd.R (Kd.int .i64) 3 w' w.heap.size (fun k_ => some k_ ≠ (CF : Value).ownBlock) CE r4 ∧ Kd.R ib 76 w' w.heap.size (fun _ => True) Hi r5 ∧ Below w.heap.size w w' := by
 have J5 := Try.underlying62
 have HB := ak (Below.refl w.heap.size w)
 have H : (dv.l0 k 0 ((a0 - (Int.tmod a0 64)) % 4294967296) a1 ([] : List Int) ([] : List Int)) = some (r1, r2, r3, r4, r5) := h
 clear h
 have H' := ak H
 clear H
 go_enter Try.func45, Try.ntmps45
 go_wp2_with (first | ((with_reducible refine av (N := 4) rfl ?_); refine fi ?hg (N := 4) ?hd (cs := #[.int .u32 0, .string (⟨#[]⟩ : ByteArray), .slice none 0 0, .slice none 0 0, .slice none 0 0]) (t := 62) ?hr ?_; (case hd => rfl); (case hg => rfl); (case hr => first | (go_simp; done) | (go_simp; rfl)); intro fh hg w3 hbox hb; have bV := ak (bg (by repeat (first | (with_reducible first | exact HB.out | apply af | apply ab | apply ai) | exact HB.out)) hb); have b4 := ak (hbox); have df := ak ((by rw [hg]; exact (bf (by repeat (first | (with_reducible first | exact HB.out | apply af | apply ab | apply ai) | exact HB.out))) : w.heap.size ≤ fh)); have dP := ak ((by rw [hg]; exact (bf (by repeat (first | (with_reducible first | exact HB.out | apply af | apply ab | apply ai) | exact HB.out))) : w.heap.size ≤ fh)); clear HB; have HB := bV; have eL := b4; have Wv := df; have mc := dP; clear bV b4 df dP; clear hb hbox hg) | ((with_reducible refine av (N := 5) rfl ?_); refine fi ?hg (N := 5) ?hd (cs := #[.int .u32 0, .string (⟨#[]⟩ : ByteArray), .slice none 0 0, .slice none 0 0, .slice none 0 0]) (t := 62) ?hr ?_; (case hd => rfl); (case hg => rfl); (case hr => first | (go_simp; done) | (go_simp; rfl)); intro dA hg w4 hbox hb; have bV := ak (e7 (g := fh) (o := .cells #[.int .u32 0, .string (⟨#[]⟩ : ByteArray), .slice none 0 0, .slice none 0 0, .slice none 0 0] 62 (0, 0)) (by (with_reducible repeat (first | refine aI ?_ _ | refine aT ?_ | refine aJ ?_ _)); exact eL.out) hb); have b4 := ak (bg (by repeat (first | (with_reducible first | exact HB.out | apply af | apply ab | apply ai | refine aN ?_ mc.out) | exact HB.out)) hb); have df := ak (hbox); have dP := ak ((by rw [hg]; exact (bf (by repeat (first | (with_reducible first | exact HB.out | apply af | apply ab | apply ai | refine aN ?_ mc.out) | exact HB.out))) : w.heap.size ≤ dA)); have jr := ak ((by rw [hg]; exact (bf (by repeat (first | (with_reducible first | exact HB.out | apply af | apply ab | apply ai | refine aN ?_ mc.out) | exact HB.out))) : w.heap.size ≤ dA)); have mI := ak ((by rw [hg]; exact Nat.ne_of_lt (jZ (g := fh) (o := .cells #[.int .u32 0, .string (⟨#[]⟩ : ByteArray), .slice none 0 0, .slice none 0 0, .slice none 0 0] 62 (0, 0)) (by (with_reducible repeat (first | refine aI ?_ _ | refine aT ?_ | refine aJ ?_ _)); exact eL.out)) : fh ≠ dA)); have qk := ak ((by rw [hg]; exact Nat.ne_of_gt (jZ (g := fh) (o := .cells #[.int .u32 0, .string (⟨#[]⟩ : ByteArray), .slice none 0 0, .slice none 0 0, .slice none 0 0] 62 (0, 0)) (by (with_reducible repeat (first | refine aI ?_ _ | refine aT ?_ | refine aJ ?_ _)); exact eL.out)) : dA ≠ fh)); clear eL; clear HB; have eL := bV; have HB := b4; have bF := df; have Wu := dP; have pW := jr; have gJ := mI; have qE := qk; clear bV b4 df dP jr mI qk; clear hb hbox hg; have YV := qE.out; have YS := gJ.out; have DD : w4.cell? ⟨dA, 0, none⟩ = some (.int .u32 0) := (aA bF.out 0).trans rfl; have DC : w4.cell? ⟨dA, 1, none⟩ = some (.string (⟨#[]⟩ : ByteArray)) := (aA bF.out 1).trans rfl; have Xx : w4.cell? ⟨dA, 2, none⟩ = some (.slice none 0 0) := (aA bF.out 2).trans rfl; have Xw : w4.cell? ⟨dA, 3, none⟩ = some (.slice none 0 0) := (aA bF.out 3).trans rfl; have Xv : w4.cell? ⟨dA, 4, none⟩ = some (.slice none 0 0) := (aA bF.out 4).trans rfl; have Dy := aq bF.out 0; have Dx := aq bF.out 1; have Xh := aq bF.out 2; have Xg := aq bF.out 3; have Xf := aq bF.out 4))
 go_loopg [6] k (fun kq v6 w' => ∃ (pP : Int) (g7 : List Int) (gF : List Int) (j9 : Value) (gS : Value), v6 = .int .i64 pP ∧ Aside0 (dv.l0 kq pP ((a0 - (Int.tmod a0 64)) % 4294967296) a1 g7 gF = some (r1, r2, r3, r4, r5)) ∧ Aside0 (kq ≤ k) ∧ Aside0 (Kd.R (Kd.int .i64) 3 w' w.heap.size (fun k_ => some k_ ≠ (gS : Value).ownBlock) j9 g7) ∧ Aside0 (Kd.R (Kd.int .i64) 3 w' w.heap.size (fun k_ => some k_ ≠ (j9 : Value).ownBlock) gS gF) ∧ Aside0 (w'.heap[fh]? = some (.cells #[.int .u32 0, .string (⟨#[]⟩ : ByteArray), (.slice none 0 0), (.slice none 0 0), (.slice none 0 0)] 62 (0, 0))) ∧ Aside0 (w'.heap[dA]? = some (.cells #[.int .u32 ((a0 - (Int.tmod a0 64)) % 4294967296), .string a1, j9, gS, (.slice none 0 0)] 62 (0, 0))) ∧ Aside0 (Below w.heap.size w w'))
 case atStart => exact ⟨(0), (([] : List Int)), (([] : List Int)), (.slice none 0 0), (.slice none 0 0), (by first | rfl | (simp; done) | (simp [*]; done)), H', ⟨Nat.le_refl _⟩, ⟨by first | exact Kd.R_nil _ _ _ _ _ | exact Kd.N_nil _ _ _ _ _ | exact Kd.V_nil _ _ _ _ _ | exact Kd.Q_nil _ _ _ _ _ | exact Kd.S_nil _ _ _ _ _⟩, ⟨by first | exact Kd.R_nil _ _ _ _ _ | exact Kd.N_nil _ _ _ _ _ | exact Kd.V_nil _ _ _ _ _ | exact Kd.Q_nil _ _ _ _ _ | exact Kd.S_nil _ _ _ _ _⟩, ⟨by (with_reducible repeat (first | refine aI ?_ _ | refine aT ?_ | refine aJ ?_ _)); refine ma ?_ gJ.out _; (with_reducible repeat (first | refine aI ?_ _ | refine aT ?_ | refine aJ ?_ _)); refine ma ?_ gJ.out _; (with_reducible repeat (first | refine aI ?_ _ | refine aT ?_ | refine aJ ?_ _)); refine ma ?_ gJ.out _; (with_reducible repeat (first | refine aI ?_ _ | refine aT ?_ | refine aJ ?_ _)); refine ma ?_ gJ.out _; (with_reducible repeat (first | refine aI ?_ _ | refine aT ?_ | refine aJ ?_ _)); refine ma ?_ gJ.out _; (with_reducible repeat (first | refine aI ?_ _ | refine aT ?_ | refine aJ ?_ _)); exact eL.out⟩, ⟨by (with_reducible repeat (first | refine aI ?_ _ | refine aT ?_ | refine aJ ?_ _)); refine fa (cs := #[.int .u32 ((a0 - (Int.tmod a0 64)) % 4294967296), .string a1, .slice none 0 0, .slice none 0 0, .slice none 0 0]) ?_ 4 _ rfl; (with_reducible repeat (first | refine aI ?_ _ | refine aT ?_ | refine aJ ?_ _)); refine fa (cs := #[.int .u32 ((a0 - (Int.tmod a0 64)) % 4294967296), .string a1, .slice none 0 0, .slice none 0 0, .slice none 0 0]) ?_ 3 _ rfl; (with_reducible repeat (first | refine aI ?_ _ | refine aT ?_ | refine aJ ?_ _)); refine fa (cs := #[.int .u32 ((a0 - (Int.tmod a0 64)) % 4294967296), .string a1, .slice none 0 0, .slice none 0 0, .slice none 0 0]) ?_ 2 _ rfl; (with_reducible repeat (first | refine aI ?_ _ | refine aT ?_ | refine aJ ?_ _)); refine fa (cs := #[.int .u32 ((a0 - (Int.tmod a0 64)) % 4294967296), .string (⟨#[]⟩ : ByteArray), .slice none 0 0, .slice none 0 0, .slice none 0 0]) ?_ 1 _ rfl; (with_reducible repeat (first | refine aI ?_ _ | refine aT ?_ | refine aJ ?_ _)); refine fa (cs := #[.int .u32 0, .string (⟨#[]⟩ : ByteArray), .slice none 0 0, .slice none 0 0, .slice none 0 0]) ?_ 0 _ rfl; (with_reducible repeat (first | refine aI ?_ _ | refine aT ?_ | refine aJ ?_ _)); exact bF.out⟩, ⟨by repeat (first | (with_reducible first | exact HB.out | apply af | apply ab | apply ai | refine aN ?_ mc.out | refine aN ?_ pW.out) | exact HB.out)⟩⟩
 case round =>
  clear H'
  obtain ⟨pP, g7, gF, j9, gS, rfl, HA, du, mb, iF, eL, bF, HB⟩ := hrel
  cases gk with
  | zero => exact absurd HA.out (by simp [dv.l0])
  | succ k1 =>
   have H := HA.out
   clear HA
   simp only [dv.l0] at H
   by_cases c7 : pP < 64
   ·rw [if_pos c7] at H
    have mi : decide (pP < 64) = true := decide_eq_true c7
    clear c7
    by_cases c8 : g7.length < 17592186044416
    ·rw [if_pos c8] at H
     have TU := ak c8
     clear c8
     obtain ⟨mD, uX⟩ : ∃ y_ : List Int, y_ = (g7 ++ [0]) := ⟨_, rfl⟩
     replace H : (if gF.length < 17592186044416 then (dv.l0 k1 (wrap64 (pP + 1)) ((a0 - (Int.tmod a0 64)) % 4294967296) a1 mD (gF ++ [pP])) else (none)) = some (r1, r2, r3, r4, r5) := by first | (rw [uX]; with_reducible exact H) | (have fL := (Option.bind_some _ _).symm.trans H; rw [uX]; with_reducible exact fL) | (have fL := (Option.bind_some _ _).symm.trans H; with_reducible exact fL) | with_reducible exact H | (rw [uX]; exact H) | exact H
     have N4 := ak uX
     clear uX
     by_cases c9 : gF.length < 17592186044416
     ·rw [if_pos c9] at H
      have TT := ak c9
      clear c9
      obtain ⟨wm, uW⟩ : ∃ y_ : List Int, y_ = (gF ++ [pP]) := ⟨_, rfl⟩
      replace H : (dv.l0 k1 (wrap64 (pP + 1)) ((a0 - (Int.tmod a0 64)) % 4294967296) a1 mD wm) = some (r1, r2, r3, r4, r5) := by first | (rw [uW]; with_reducible exact H) | (have fL := (Option.bind_some _ _).symm.trans H; rw [uW]; with_reducible exact fL) | (have fL := (Option.bind_some _ _).symm.trans H; with_reducible exact fL) | with_reducible exact H | (rw [uW]; exact H) | exact H
      have N3 := ak uW
      clear uW
      have H' := ak H
      clear H
      have Yx := qE.out
      have Ys := gJ.out
      have Nx : wr.cell? ⟨dA, 0, none⟩ = some (.int .u32 ((a0 - (Int.tmod a0 64)) % 4294967296)) := (aA bF.out 0).trans rfl
      have Nw : wr.cell? ⟨dA, 1, none⟩ = some (.string a1) := (aA bF.out 1).trans rfl
      have Wk : wr.cell? ⟨dA, 2, none⟩ = some (j9) := (aA bF.out 2).trans rfl
      have Wj : wr.cell? ⟨dA, 3, none⟩ = some (gS) := (aA bF.out 3).trans rfl
      have Wi : wr.cell? ⟨dA, 4, none⟩ = some (.slice none 0 0) := (aA bF.out 4).trans rfl
      have Nb := aq bF.out 0
      have Na := aq bF.out 1
      have Vg := aq bF.out 2
      have Vf := aq bF.out 3
      have Ve := aq bF.out 4
      go_wp2_with (first | ((with_reducible refine bG (b := .append) (xs := #[.tmp 18, .tmp 19]) rfl ?_); at_builtin; refine Kd.R_append (Kd.int .i64) (w0 := w) w.heap.size rfl (.tmp 18) (.tmp 19) 31 3 (.int .i64 0) 8 rfl Try.underlying31 Ct rfl (by decide) (by omega) j9 g7 0 [.int .i64 0] (fun k_ => some k_ ≠ (gS : Value).ownBlock) (fun _ => False) rfl rfl ?aP (fun _ hk => hk.elim) ?aF ?aO ?aB ?aS ?aL ?_; (case aP => exact rfl); (case aB => exact (by repeat (first | (with_reducible first | exact HB.out | apply af | apply ab | apply ai | refine aN ?_ mc.out | refine aN ?_ pW.out) | exact HB.out))); (case aF => exact (fun k_ hk => Kd.fresh' (Kd.R_lt (by (with_reducible repeat (first | apply Kd.R_alloc | apply Kd.R_drewN | apply Kd.R_drew)); exact iF.out)) k_ hk)); (case aO => exact (by (with_reducible repeat (first | apply Kd.R_alloc | apply Kd.R_drewN | apply Kd.R_drew)); exact mb.out)); (case aS => exact (bf (by repeat (first | (with_reducible first | exact HB.out | apply af | apply ab | apply ai | refine aN ?_ mc.out | refine aN ?_ pW.out) | exact HB.out)))); (case aL => have := TU.out; omega); intro WE Fo ho hb hg hat; rw [← N4.out] at ho; have bV := ak (Kd.R_after (ok := (fun _ => True)) (by (with_reducible repeat (first | apply Kd.R_alloc | apply Kd.R_drewN | apply Kd.R_drew)); exact Kd.R_mono iF.out (fun _ hk => ⟨trivial, hk⟩)) hg hat); have b4 := ak (kh (g := fh) (o := .cells #[.int .u32 0, .string (⟨#[]⟩ : ByteArray), .slice none 0 0, .slice none 0 0, .slice none 0 0] 62 (0, 0)) (by (with_reducible repeat (first | refine aI ?_ _ | refine aT ?_ | refine aJ ?_ _)); exact eL.out) hg (Kd.R_ne mb.out eL.out (by decide))); have df := ak (kh (g := dA) (o := .cells #[.int .u32 ((a0 - (Int.tmod a0 64)) % 4294967296), .string a1, j9, gS, .slice none 0 0] 62 (0, 0)) (by (with_reducible repeat (first | refine aI ?_ _ | refine aT ?_ | refine aJ ?_ _)); exact bF.out) hg (Kd.R_ne mb.out bF.out (by decide))); have dP := ak (hb); have jr := ak (ho); clear iF; clear eL; clear bF; clear HB; clear mb; have iF := bV; have eL := b4; have bF := df; have HB := dP; have rp := jr; clear bV b4 df dP jr; clear ho hb hg hat; obtain ⟨xk, um, GM⟩ := Kd.R_slice rp.out; subst GM; have Nv : Fo.cell? ⟨dA, 0, none⟩ = some (.int .u32 ((a0 - (Int.tmod a0 64)) % 4294967296)) := (aA bF.out 0).trans rfl; have Nu : Fo.cell? ⟨dA, 1, none⟩ = some (.string a1) := (aA bF.out 1).trans rfl; have Nt : Fo.cell? ⟨dA, 2, none⟩ = some (j9) := (aA bF.out 2).trans rfl; have Ns : Fo.cell? ⟨dA, 3, none⟩ = some (gS) := (aA bF.out 3).trans rfl; have Nr : Fo.cell? ⟨dA, 4, none⟩ = some (.slice none 0 0) := (aA bF.out 4).trans rfl; have M9 := aq bF.out 0; have M8 := aq bF.out 1; have M7 := aq bF.out 2; have M6 := aq bF.out 3; have M5 := aq bF.out 4) | ((with_reducible refine bG (b := .append) (xs := #[.tmp 23, .tmp 25]) rfl ?_); at_builtin; refine Kd.R_append (Kd.int .i64) (w0 := w) w.heap.size rfl (.tmp 23) (.tmp 25) 31 3 (.int .i64 0) 8 rfl Try.underlying31 Ct rfl (by decide) (by omega) gS gF pP [.int .i64 pP] (fun k_ => some k_ ≠ (.slice xk mD.length um : Value).ownBlock) (fun _ => False) rfl (by first | (go_simp; done) | (go_simp; rfl)) ?aP (fun _ hk => hk.elim) ?aF ?aO ?aB ?aS ?aL ?_; (case aP => exact rfl); (case aB => exact (by repeat (first | (with_reducible first | exact HB.out | apply af | apply ab | apply ai | refine aN ?_ mc.out | refine aN ?_ pW.out) | exact HB.out))); (case aF => exact (fun k_ hk => Kd.fresh' (Kd.R_lt (by (with_reducible repeat (first | apply Kd.R_alloc | apply Kd.R_drewN | apply Kd.R_drew)); exact (Kd.R_mono (Kd.R_far (p := ⟨dA, 2, none⟩) (Kd.R_types rp.out bF.out (by decide)) (fun _ hk => hk.2) (.slice xk mD.length um)) (fun _ h_ => h_.1)))) k_ hk)); (case aO => exact (by (with_reducible repeat (first | apply Kd.R_alloc | apply Kd.R_drewN | apply Kd.R_drew)); exact Kd.R_mono (Kd.R_far (p := ⟨dA, 2, none⟩) (Kd.R_types iF.out bF.out (by decide)) (fun _ hk => hk.2) (.slice xk mD.length um)) (fun _ hk => hk.1.2))); (case aS => exact (bf (by repeat (first | (with_reducible first | exact HB.out | apply af | apply ab | apply ai | refine aN ?_ mc.out | refine aN ?_ pW.out) | exact HB.out)))); (case aL => have := TT.out; omega); intro WD yD ho hb hg hat; rw [← N3.out] at ho; have bV := ak (kh (g := fh) (o := .cells #[.int .u32 0, .string (⟨#[]⟩ : ByteArray), .slice none 0 0, .slice none 0 0, .slice none 0 0] 62 (0, 0)) (by (with_reducible repeat (first | refine aI ?_ _ | refine aT ?_ | refine aJ ?_ _)); refine ma ?_ gJ.out _; (with_reducible repeat (first | refine aI ?_ _ | refine aT ?_ | refine aJ ?_ _)); exact eL.out) hg (Kd.R_ne iF.out eL.out (by decide))); have b4 := ak (kh (g := dA) (o := .cells #[.int .u32 ((a0 - (Int.tmod a0 64)) % 4294967296), .string a1, .slice xk mD.length um, gS, .slice none 0 0] 62 (0, 0)) (by (with_reducible repeat (first | refine aI ?_ _ | refine aT ?_ | refine aJ ?_ _)); refine fa (cs := #[.int .u32 ((a0 - (Int.tmod a0 64)) % 4294967296), .string a1, j9, gS, .slice none 0 0]) ?_ 2 _ rfl; (with_reducible repeat (first | refine aI ?_ _ | refine aT ?_ | refine aJ ?_ _)); exact bF.out) hg (Kd.R_ne iF.out bF.out (by decide))); have df := ak (Kd.R_after (ok := (fun _ => True)) (by (with_reducible repeat (first | apply Kd.R_alloc | apply Kd.R_drewN | apply Kd.R_drew)); exact Kd.R_mono (Kd.R_far (p := ⟨dA, 2, none⟩) (Kd.R_types rp.out bF.out (by decide)) (fun _ hk => hk.2) (.slice xk mD.length um)) (fun _ hk => ⟨trivial, hk.1⟩)) hg hat); have dP := ak (hb); have jr := ak (ho); clear eL; clear bF; clear rp; clear HB; clear iF; have eL := bV; have bF := b4; have rp := df; have HB := dP; have Gb := jr; clear bV b4 df dP jr; clear ho hb hg hat; obtain ⟨K1, Kw, TP⟩ := Kd.R_slice Gb.out; subst TP; have VR : yD.cell? ⟨dA, 0, none⟩ = some (.int .u32 ((a0 - (Int.tmod a0 64)) % 4294967296)) := (aA bF.out 0).trans rfl; have VQ : yD.cell? ⟨dA, 1, none⟩ = some (.string a1) := (aA bF.out 1).trans rfl; have VP : yD.cell? ⟨dA, 2, none⟩ = some (.slice xk mD.length um) := (aA bF.out 2).trans rfl; have VO : yD.cell? ⟨dA, 3, none⟩ = some (gS) := (aA bF.out 3).trans rfl; have VN : yD.cell? ⟨dA, 4, none⟩ = some (.slice none 0 0) := (aA bF.out 4).trans rfl; have UW := aq bF.out 0; have UU := aq bF.out 1; have UT := aq bF.out 2; have US := aq bF.out 3; have UR := aq bF.out 4))
      go_roundg k1
      case measure => have := du.out; omega
      case rel => exact ⟨(wrap64 (pP + 1)), (mD), (wm), (.slice xk mD.length um), (.slice K1 wm.length Kw), (by first | rfl | (simp; done) | (simp [*]; done)), H', ⟨by have := du.out; omega⟩, ⟨by (with_reducible repeat (first | apply Kd.R_alloc | apply Kd.R_drewN | apply Kd.R_drew)); exact Kd.R_mono (Kd.R_far (p := ⟨dA, 3, none⟩) (Kd.R_types rp.out bF.out (by decide)) (fun _ hk => hk.2) (.slice K1 wm.length Kw)) (fun _ hk => hk.1.2)⟩, ⟨by (with_reducible repeat (first | apply Kd.R_alloc | apply Kd.R_drewN | apply Kd.R_drew)); exact Kd.R_mono (Kd.R_far (p := ⟨dA, 3, none⟩) (Kd.R_types Gb.out bF.out (by decide)) (fun _ hk => hk.2) (.slice K1 wm.length Kw)) (fun _ hk => hk.1)⟩, ⟨by (with_reducible repeat (first | refine aI ?_ _ | refine aT ?_ | refine aJ ?_ _)); refine ma ?_ gJ.out _; (with_reducible repeat (first | refine aI ?_ _ | refine aT ?_ | refine aJ ?_ _)); exact eL.out⟩, ⟨by (with_reducible repeat (first | refine aI ?_ _ | refine aT ?_ | refine aJ ?_ _)); refine fa (cs := #[.int .u32 ((a0 - (Int.tmod a0 64)) % 4294967296), .string a1, .slice xk mD.length um, gS, .slice none 0 0]) ?_ 3 _ rfl; (with_reducible repeat (first | refine aI ?_ _ | refine aT ?_ | refine aJ ?_ _)); exact bF.out⟩, ⟨by repeat (first | (with_reducible first | exact HB.out | apply af | apply ab | apply ai | refine aN ?_ mc.out | refine aN ?_ pW.out) | exact HB.out)⟩⟩
     ·rw [if_neg c9] at H
      exact absurd H (by simp)
    ·rw [if_neg c8] at H
     exact absurd H (by simp)
   ·rw [if_neg c7] at H
    have mi : decide (pP < 64) = false := decide_eq_false c7
    clear c7
    simp only [Option.some.injEq, Prod.mk.injEq] at H
    obtain ⟨rfl, rfl, rfl, rfl, rfl⟩ := H
    have Yv := qE.out
    have Yq := gJ.out
    have Nq : wr.cell? ⟨dA, 0, none⟩ = some (.int .u32 ((a0 - (Int.tmod a0 64)) % 4294967296)) := (aA bF.out 0).trans rfl
    have Np : wr.cell? ⟨dA, 1, none⟩ = some (.string a1) := (aA bF.out 1).trans rfl
    have Nn : wr.cell? ⟨dA, 2, none⟩ = some (j9) := (aA bF.out 2).trans rfl
    have Nm : wr.cell? ⟨dA, 3, none⟩ = some (gS) := (aA bF.out 3).trans rfl
    have Nl : wr.cell? ⟨dA, 4, none⟩ = some (.slice none 0 0) := (aA bF.out 4).trans rfl
    have M4 := aq bF.out 0
    have M3 := aq bF.out 1
    have M0 := aq bF.out 2
    have MZ := aq bF.out 3
    have MY := aq bF.out 4
    have VM : wr.cell? ⟨fh, 0, none⟩ = some (.int .u32 0) := (aA eL.out 0).trans rfl
    have VL : wr.cell? ⟨fh, 1, none⟩ = some (.string (⟨#[]⟩ : ByteArray)) := (aA eL.out 1).trans rfl
    have VK : wr.cell? ⟨fh, 2, none⟩ = some (.slice none 0 0) := (aA eL.out 2).trans rfl
    have VJ : wr.cell? ⟨fh, 3, none⟩ = some (.slice none 0 0) := (aA eL.out 3).trans rfl
    have VI : wr.cell? ⟨fh, 4, none⟩ = some (.slice none 0 0) := (aA eL.out 4).trans rfl
    have UQ := aq eL.out 0
    have UP := aq eL.out 1
    have UO := aq eL.out 2
    have UN := aq eL.out 3
    have UM := aq eL.out 4
    obtain ⟨EJ, DW, TN⟩ := Kd.R_slice mb.out
    subst TN
    obtain ⟨G9, GO, TM⟩ := Kd.R_slice iF.out
    subst TM
    go_wp2
    refine bodyPost_ret (results_cell_row rfl _ _ fh 62 #[.int .u32 ((a0 - (Int.tmod a0 64)) % 4294967296), .string a1, .slice EJ g7.length DW, .slice G9 gF.length GO, .slice none 0 0] (0, 0) _ rfl (by (with_reducible repeat (first | refine aI ?_ _ | refine aT ?_ | refine aJ ?_ _)); refine fa (cs := #[.int .u32 ((a0 - (Int.tmod a0 64)) % 4294967296), .string a1, .slice EJ g7.length DW, .slice G9 gF.length GO, .slice none 0 0]) ?_ 4 _ rfl; (with_reducible repeat (first | refine aI ?_ _ | refine aT ?_ | refine aJ ?_ _)); refine fa (cs := #[.int .u32 ((a0 - (Int.tmod a0 64)) % 4294967296), .string a1, .slice EJ g7.length DW, .slice none 0 0, .slice none 0 0]) ?_ 3 _ rfl; (with_reducible repeat (first | refine aI ?_ _ | refine aT ?_ | refine aJ ?_ _)); refine fa (cs := #[.int .u32 ((a0 - (Int.tmod a0 64)) % 4294967296), .string a1, .slice none 0 0, .slice none 0 0, .slice none 0 0]) ?_ 2 _ rfl; (with_reducible repeat (first | refine aI ?_ _ | refine aT ?_ | refine aJ ?_ _)); refine fa (cs := #[.int .u32 ((a0 - (Int.tmod a0 64)) % 4294967296), .string (⟨#[]⟩ : ByteArray), .slice none 0 0, .slice none 0 0, .slice none 0 0]) ?_ 1 _ rfl; (with_reducible repeat (first | refine aI ?_ _ | refine aT ?_ | refine aJ ?_ _)); refine fa (cs := #[.int .u32 0, .string (⟨#[]⟩ : ByteArray), .slice none 0 0, .slice none 0 0, .slice none 0 0]) ?_ 0 _ rfl; (with_reducible repeat (first | refine aI ?_ _ | refine aT ?_ | refine aJ ?_ _)); exact eL.out) Try.underlying62 rfl (by kernel_rfl)) rfl ?_
    exact ⟨_, _, _, by first | rfl | (simp [bz, bx] <;> rfl) | (simp [*, bz, bx] <;> rfl), by (with_reducible repeat (first | apply Kd.R_alloc | apply Kd.R_drewN | apply Kd.R_drew)); exact Kd.R_mono (Kd.R_far (p := ⟨fh, 4, none⟩) (Kd.R_far (p := ⟨fh, 3, none⟩) (Kd.R_far (p := ⟨fh, 2, none⟩) (Kd.R_far (p := ⟨fh, 1, none⟩) (Kd.R_far (p := ⟨fh, 0, none⟩) (Kd.R_types mb.out eL.out (by decide)) (fun _ hk => hk.2) (.int .u32 ((a0 - (Int.tmod a0 64)) % 4294967296))) (fun _ hk => hk.2) (.string a1)) (fun _ hk => hk.2) (.slice EJ g7.length DW)) (fun _ hk => hk.2) (.slice G9 gF.length GO)) (fun _ hk => hk.2) (.slice none 0 0)) (fun _ hk => hk.1), by (with_reducible repeat (first | apply Kd.R_alloc | apply Kd.R_drewN | apply Kd.R_drew)); exact Kd.R_mono (Kd.R_far (p := ⟨fh, 4, none⟩) (Kd.R_far (p := ⟨fh, 3, none⟩) (Kd.R_far (p := ⟨fh, 2, none⟩) (Kd.R_far (p := ⟨fh, 1, none⟩) (Kd.R_far (p := ⟨fh, 0, none⟩) (Kd.R_types iF.out eL.out (by decide)) (fun _ hk => hk.2) (.int .u32 ((a0 - (Int.tmod a0 64)) % 4294967296))) (fun _ hk => hk.2) (.string a1)) (fun _ hk => hk.2) (.slice EJ g7.length DW)) (fun _ hk => hk.2) (.slice G9 gF.length GO)) (fun _ hk => hk.2) (.slice none 0 0)) (fun _ hk => hk.1), by first | exact Kd.R_nil _ _ _ _ _ | exact Kd.N_nil _ _ _ _ _ | exact Kd.V_nil _ _ _ _ _ | exact Kd.Q_nil _ _ _ _ _ | exact Kd.S_nil _ _ _ _ _, by repeat (first | (with_reducible first | exact HB.out | apply af | apply ab | apply ai | refine aN ?_ mc.out | refine aN ?_ pW.out) | exact HB.out)⟩
end Go.Proofs.Ytemhalnhbgkbcaa.V
end

section
namespace Go.Proofs.Ytemhalnhbgkbcaa.V
theorem MJ (x : Int) (s : ByteArray) : ∀ (d k i : Nat), i + d = 64 → d < k → dv.l0 k (i : Int) x s (List.replicate i 0) (lq i) = some (x, s, List.replicate 64 0, lq 64, []) := by
 intro d
 induction d with
 | zero =>
  intro k i hi hk
  obtain ⟨k, rfl⟩ : ∃ m, k = m + 1 := ⟨k - 1, by omega⟩
  obtain rfl : i = 64 := by omega
  rw [dv.l0, if_neg (by decide)]
 | succ d ih =>
  intro k i hi hk
  obtain ⟨k, rfl⟩ : ∃ m, k = m + 1 := ⟨k - 1, by omega⟩
  rw [dv.l0, if_pos (by omega), ik _ (by omega) (by omega), show (i : Int) + 1 = ((i + 1 : Nat) : Int) by omega]
  have h := ih k (i + 1) (by omega) (by omega)
  rw [yO, List.replicate_succ'] at h
  rw [if_pos (by rw [List.length_replicate]; omega), if_pos (by rw [wK]; omega)]
  exact h
theorem JG (a : Int) (h0 : 0 ≤ a) (h1 : a < 4294967296) (s : ByteArray) (w : World) :
  Calls Try.prog 45 #[.int .u32 a, .string s] w fun e w' => ∃ v, e = .returned v ∧ eU w' w.heap.size v (qQ a s) ∧ Below w.heap.size w w' := by
 have hf : dv.f 100 a s = some (b9 a, s, List.replicate 64 0, lq 64, []) := by
  have e : (a - Int.tmod a 64) % 4294967296 = b9 a := by
   unfold b9
   rw [Int.tmod_eq_emod_of_nonneg h0]
   omega
  have h := MJ (b9 a) s 64 100 0 (by omega) (by omega)
  rw [← e] at h ⊢
  exact h
 refine (dv.calls 100 a s _ _ _ _ _ w hf).mono ?_
 rintro e w' ⟨v2, v3, v4, rfl, r2, r3, r4, hb⟩
 exact ⟨_, rfl, ⟨v2, v3, v4, rfl, Kd.R_mono (ok' := fun _ => True) r2 (fun _ _ => trivial), Kd.R_mono (ok' := fun _ => True) r3 (fun _ _ => trivial), r4⟩, hb⟩
end Go.Proofs.Ytemhalnhbgkbcaa.V
end

section
namespace Go.Proofs.Ytemhalnhbgkbcaa.V
def QV (l : List Int) : Bool := l.all (fun x => decide (0 ≤ x) && decide (x < 256))
theorem FV {l : List Int} (h : QV l = true) : fV l := fun x hx => by
 have := List.all_eq_true.1 h x hx
 simpa using this
end Go.Proofs.Ytemhalnhbgkbcaa.V
end

section
namespace Go.Proofs.Ytemhalnhbgkbcaa.V
theorem RG.new (a : Int) (h0 : 0 ≤ a) (h1 : a < 4294967296) (s : ByteArray) (hs : fS s = true) : RG (qQ a s) := by
 have hf : b9 (b9 a) = b9 a := by unfold b9; omega
 have h2 : 0 ≤ b9 a ∧ b9 a < 4294967296 := by unfold b9; omega
 refine RG.of ⟨h2.1, h2.2, FV (by kernel_rfl), FV (by kernel_rfl)⟩ (by kernel_rfl) ?_
 have e1 : kK (qQ a s) = true := by kernel_rfl
 have e2 : kW (qQ a s) = true := by kernel_rfl
 unfold dC
 rw [e1, e2]
 show (b9 (b9 a) == b9 a && (fS s && (decide (([] : List At).length ≤ 64) && (true && true)))) = true
 rw [hf, hs]
 simp
def Bp.T13 : Bool × List (List Nat × List Nat) := (true, [([], []), ([0], [0]), ([1], [1]), ([2], [2]), ([3, 2, 2], [2, 3]), ([2], [2]), ([4, 5, 4, 2], [2, 4, 5]), ([6, 2], [2, 6]), ([2, 7], [2, 7]), ([8, 6], [8]), ([9], [9]), ([10, 9, 9], [9, 10]), ([11, 9], [9, 11]), ([9, 12], [9, 12]), ([13, 11], [13]), ([14], [14]), ([15, 14, 14], [14, 15]), ([16, 14], [14, 16]), ([14, 17], [14, 17])])
def Bp.B13 : List Nat := [0, 1, 3, 7, 15, 7, 63, 127, 255, 511, 1023, 2047, 4095, 8191, 16383, 32767, 65535, 131071, 262143]
theorem Bp.tab13 : ed .any (opsOf Try.f10 13) = Bp.T13 := by kernel_rfl
theorem Bp.bits13 : dL Bp.T13.2 Bp.B13 = true := by kernel_rfl
end Go.Proofs.Ytemhalnhbgkbcaa.V
end

section
namespace Go.Proofs.Ytemhalnhbgkbcaa.V
theorem Fg {l : List Int} (h : fV l) : bytesOf (strOfNums l) = l := by
 unfold bytesOf
 rw [strOfNums_data, List.map_map]
 conv => rhs; rw [← List.map_id l]
 apply List.map_congr_left
 intro x hx
 have := h x hx
 simp only [Function.comp, id]
 rw [show (UInt8.ofNat x.toNat).toNat = x.toNat % 256 from rfl]
 omega
theorem ua (s : ByteArray) : strOfNums (bytesOf s) = s := by
 apply ByteArray.ext
 apply Array.ext'
 rw [strOfNums_data]
 unfold bytesOf
 rw [List.map_map]
 conv => rhs; rw [← List.map_id s.data.toList]
 apply List.map_congr_left
 intro b _
 simp
end Go.Proofs.Ytemhalnhbgkbcaa.V
end

section
namespace Go.Proofs.Ytemhalnhbgkbcaa.V
theorem kY (x y : List Int) (n : Int) (h : (x.length : Int) = n) : cT (x ++ y) false n = (x, y, false) := by
 unfold cT
 have e : n.toNat = x.length := by omega
 rw [if_pos ⟨rfl, by omega, by rw [List.length_append]; omega⟩, e, List.take_left, List.drop_left]
theorem CN (s : ByteArray) : fN s = [(s.size : Int)] ++ bytesOf s := rfl
theorem wA (s : ByteArray) (hs : s.size ≤ 64) (y : List Int) : ia (fN s ++ y) false = (bytesOf s, y, false) := by
 have e : cT (fN s ++ y) false 1 = ([(s.size : Int)], bytesOf s ++ y, false) := by
  rw [CN, List.append_assoc]
  exact kY _ _ 1 rfl
 unfold ia
 rw [e]
 have en : fe [(s.size : Int)] = s.size := by simp [fe]
 dsimp only
 rw [en, show decide (64 < s.size) = false by simp; omega, Bool.or_false]
 exact kY _ _ _ (by rw [iw])
theorem y6 : ∀ (l : List At) (y : List Int), (∀ a ∈ l, a.f0.size ≤ 64 ∧ a.f1.size ≤ 64) → k9 l.length (l.flatMap mj ++ y) false = (l, y, false)
 | [], y, _ => rfl
 | a :: l, y, h => by
  obtain ⟨h0, h1⟩ := h a (by simp)
  have ih := y6 l y (fun b hb => h b (by simp [hb]))
  have e : (a :: l).flatMap mj ++ y = fN a.f0 ++ (fN a.f1 ++ (l.flatMap mj ++ y)) := by
   rw [List.flatMap_cons]
   show (fN a.f0 ++ fN a.f1) ++ l.flatMap mj ++ y = _
   simp only [List.append_assoc]
  have t0 := wA a.f0 h0 (fN a.f1 ++ (l.flatMap mj ++ y))
  have t1 := wA a.f1 h1 (l.flatMap mj ++ y)
  rw [e, List.length_cons]
  unfold k9
  have e2 : lv (fN a.f0 ++ (fN a.f1 ++ (l.flatMap mj ++ y))) = (bytesOf a.f1, l.flatMap mj ++ y, false) := by
   unfold lv
   rw [t0]
   exact t1
  have e3 : xu (fN a.f0 ++ (fN a.f1 ++ (l.flatMap mj ++ y))) = a := by
   unfold xu
   rw [t0, e2]
   dsimp only
   rw [ua, ua]
  rw [if_neg (by decide), e2, e3, ih]
theorem PT (n : Nat) : fV (qv n) := by
 intro x hx
 simp only [qv, List.mem_cons, List.not_mem_nil, or_false] at hx
 rcases hx with rfl | rfl | rfl | rfl <;> omega
theorem Kx (n : Nat) (h : n < 4294967296) : fe (qv n) = n := by
 simp only [qv, fe, List.foldl_cons, List.foldl_nil, Int.toNat_natCast]
 omega
theorem yc (s : ByteArray) (hs : s.size ≤ 64) : fV (fN s) := by
 intro x hx
 rw [CN] at hx
 rcases List.mem_append.1 hx with h | h
 ·rw [List.mem_singleton] at h
  omega
 ·exact qV s x h
theorem m4 {x y : List Int} (hx : fV x) (hy : fV y) : fV (x ++ y) := by
 intro z hz
 rcases List.mem_append.1 hz with h | h
 ·exact hx z h
 ·exact hy z h
theorem BH {b : Bk} (hp : RightP b) : ∀ a ∈ b.attrs, a.f0.size ≤ 64 ∧ a.f1.size ≤ 64 := by
 intro a ha
 obtain ⟨j, hj, rfl⟩ := List.getElem_of_mem ha
 have := hp.may j hj
 rw [show gh b.attrs j = b.attrs[j] by simp [gh, cI, List.getD, hj]] at this
 unfold ep at this
 rw [Bool.and_eq_true] at this
 exact ⟨(e8 this.1).2, (e8 this.2).2⟩
theorem xO (b : Bk) : gW b = [66] ++ (qv b.addr.toNat ++ (fN b.aff ++ ([(b.attrs.length : Int)] ++ (b.attrs.flatMap mj ++ (b.slots ++ ([(b.free.length : Int)] ++ (b.free ++ []))))))) := by
 unfold gW eJ
 rw [List.take_of_length_le (Nat.le_refl _)]
 simp
theorem JZ {b : Bk} (hk : BkOk b) (hp : RightP b) (hl : b.slots.length = 64) : fV (gW b) := by
 have hfl := hp.free_len hl
 have hal := hp.na
 rw [xO]
 refine m4 (by intro x hx; simp at hx; omega) (m4 (PT _) (m4 (yc _ (lH hp.owner)) (m4 (by intro x hx; simp at hx; omega) (m4 ?_ (m4 hk.s8 (m4 (by intro x hx; simp at hx; omega) (m4 hk.f8 (by intro x hx; simp at hx))))))))
 intro x hx
 obtain ⟨a, ha, hxa⟩ := List.mem_flatMap.1 hx
 have h := BH hp a ha
 exact m4 (yc _ h.1) (yc _ h.2) x hxa
theorem JX {b : Bk} (hk : BkOk b) (hp : RightP b) (hrt : dC b = true) (hl : b.slots.length = 64) : uI (strOfNums (gW b)) = true ∧ oO (strOfNums (gW b)) = b := by
 have hfl := hp.free_len hl
 have hal := hp.na
 have hB : bytesOf (strOfNums (gW b)) = gW b := Fg (JZ hk hp hl)
 obtain ⟨s, hs⟩ : ∃ s, s = strOfNums (gW b) := ⟨_, rfl⟩
 rw [← hs] at hB ⊢
 rw [xO] at hB
 have R0 : r0 s = ([66], qv b.addr.toNat ++ (fN b.aff ++ ([(b.attrs.length : Int)] ++ (b.attrs.flatMap mj ++ (b.slots ++ ([(b.free.length : Int)] ++ (b.free ++ [])))))), false) := by
  unfold r0
  rw [hB]
  exact kY _ _ 1 rfl
 have R1 : r1 s = (qv b.addr.toNat, fN b.aff ++ ([(b.attrs.length : Int)] ++ (b.attrs.flatMap mj ++ (b.slots ++ ([(b.free.length : Int)] ++ (b.free ++ []))))), false) := by
  unfold r1
  rw [R0]
  exact kY _ _ 4 rfl
 have R2 : r2 s = (bytesOf b.aff, [(b.attrs.length : Int)] ++ (b.attrs.flatMap mj ++ (b.slots ++ ([(b.free.length : Int)] ++ (b.free ++ [])))), false) := by
  unfold r2
  rw [R1]
  exact wA _ (lH hp.owner) _
 have R3 : r3 s = (b.attrs, b.slots ++ ([(b.free.length : Int)] ++ (b.free ++ [])), false) := by
  unfold r3 mG
  rw [R2]
  dsimp only
  rw [kY [(b.attrs.length : Int)] _ 1 rfl]
  dsimp only
  rw [show fe [(b.attrs.length : Int)] = b.attrs.length by simp [fe]]
  exact y6 _ _ (BH hp)
 have R4 : r4 s = (b.slots, [(b.free.length : Int)] ++ (b.free ++ []), false) := by
  unfold r4
  rw [R3]
  exact kY _ _ 64 (by rw [hl]; rfl)
 have R5 : r5 s = ([(b.free.length : Int)], b.free ++ [], false) := by
  unfold r5
  rw [R4]
  exact kY _ _ 1 rfl
 have R6 : r6 s = (b.free, [], false) := by
  unfold r6
  rw [R5]
  dsimp only
  rw [show fe [(b.free.length : Int)] = b.free.length by simp [fe]]
  exact kY _ _ _ rfl
 have hBk : oO s = b := by
  unfold oO
  rw [R1, R2, R4, R6, R3]
  dsimp only
  have h1 := hk.a0
  have h2 := hk.a1
  rw [Kx _ (by omega), ua, Int.toNat_of_nonneg h1]
  unfold tb
  rw [List.drop_of_length_le (by rw [hl]; simp), List.append_nil]
 refine ⟨?_, hBk⟩
 unfold uI rF
 rw [hBk, hrt, R6, R0]
 simp [fe]
end Go.Proofs.Ytemhalnhbgkbcaa.V
end

