/- The law BlockPlays for every input: texts of ours, put together (part 15 of 17). No further condition. -/
import Derived.Test.YtemhalnhbgkbcaaCBlockPlaysx2
import Derived.Test.YtemhalnhbgkbcaaCBlockPlaysx6
import Derived.Test.YtemhalnhbgkbcaaCBlockPlaysx12
import Derived.Outline
import Derived.Test.YtemhalnhbgkbcaaCBlockPlaysx13
import Derived.Test.YtemhalnhbgkbcaaCBlockPlaysx4
import Derived.ChangeSame
import Derived.WideShapes
import Derived.OpenShut
import Derived.Deep.SlicePairs
import Derived.Deep.Slices
import Derived.Test.YtemhalnhbgkbcaaCBlockPlaysx5
import Derived.Test.YtemhalnhbgkbcaaCBlockPlaysx10
import Derived.Test.YtemhalnhbgkbcaaCBlockPlaysx3
import Derived.Test.YtemhalnhbgkbcaaCBlockPlaysw1
import Derived.Test.YtemhalnhbgkbcaaCBlockPlaysx7
set_option linter.unusedVariables false
set_option linter.unusedSimpArgs false
open Go.RowKit Go.Proofs.YtemhalnhbgkbcaaW.PrintWords Go.Proofs.YtemhalnhbgkbcaaW.PrintLast Go.Proofs.YtemhalnhbgkbcaaW.PrintMore Go.Proofs.Ytemhalnhbgkbcaa.Z
section
namespace Go.Proofs.Ytemhalnhbgkbcaa.V
set_option maxHeartbeats 16000000 in
set_option maxRecDepth 100000 in
theorem KL (b : Bk) (hg : RG b) (n : Int) (hn : n < 9223372036854775808) (a : lN) (fE : a.f0.size ≤ 9223372036854775807) (gh : a.f1.size ≤ 9223372036854775807) (l : List Int) (hu : ∀ x ∈ l, 0 ≤ x ∧ x < 4294967296) (hlm : l.length ≤ 9223372036854775807) (Al : Option Addr) (cl : Nat) (hcl : l.length ≤ cl) (aff : ByteArray) (hza : aff.size ≤ 9223372036854775807) (he : a.f0.toList = []) (v v2 : Value) (w : World) (base : Nat) (hbase : base ≤ w.heap.size) (hO : eP w base v b) (hR : fw w base v2 b) (hC : Kd.C (Kd.int .u32) w Al l.length l) :
  Calls Try.prog 47 #[v, v2, .agg #[.int .i64 5, .int .i64 n, .string a.f0, .string a.f1, .slice Al l.length cl, .string aff]] w fun e w' => ∃ v1 v2 b', e = .returned (.tuple #[v1, v2, .bool true]) ∧ RG b' ∧ eP w' base v1 b' ∧ fw w' base v2 b' ∧ Below w.heap.size w w' := by
 obtain ⟨hl, vf, va, rfl, hf, ha⟩ := hO
 obtain ⟨vs, vp, vm, rfl, hs, hp, hm⟩ := hR
 obtain ⟨Af, cf, rfl⟩ := Kd.R_slice hf
 obtain ⟨Aa, ca, rfl⟩ := Kd.R_slice ha
 obtain ⟨As, cs, rfl⟩ := Kd.R_slice hs
 obtain ⟨Ap, cp, rfl⟩ := Kd.R_slice hp
 obtain ⟨M, hM⟩ : ∃ M, M = b.attrs.map vc := ⟨_, rfl⟩
 rw [← hM] at hm
 obtain ⟨Am, cm, rfl⟩ := Kd.R_slice hm
 have HL := ak hl
 have HM := ak hM
 have bU := ak hf
 have eT := ak ha
 have bl := ak hs
 have eR := ak hp
 have cb := ak hm
 have HG := ak hg
 have an := ak (Below.refl w.heap.size w)
 have HBASE := ak hbase
 have HLB := ak (dc (bk b.addr b.aff b.slots (.slice Af b.free.length cf) (.slice Aa b.attrs.length ca)) (ao _ _ _ _ _ HL.out))
 obtain ⟨lt, hlt⟩ : ∃ lt, lt = l.take 80 := ⟨_, rfl⟩
 have hut : ∀ x ∈ lt, 0 ≤ x ∧ x < 4294967296 := fun x hx => hu x (by rw [hlt] at hx; exact List.mem_of_mem_take hx)
 have hll : lt.length = min 80 l.length := by rw [hlt, List.length_take]
 have HCL := ak hcl
 have HLL := ak hll
 have HC := ak hC
 have HCT := ak (fun W (I : Below w.heap.size w W) => (show Kd.C (Kd.int .u32) W Al lt.length lt by
  rcases Nat.lt_or_ge 80 l.length with h | h
  ·have h_ := Kd.C_take (m := 80) (Kd.C_below hC I) (by omega)
   rw [← hlt] at h_
   exact h_
  ·have h_ := Kd.C_below hC I
   have e : lt = l := by rw [hlt, List.take_of_length_le h]
   rw [e]
   exact h_))
 have q0 : (a.f0.toList == []) = true := by rw [he]; rfl
 have q1 : a.f0.toList.isEmpty = true := by rw [he]; rfl
 have q2 : (a.f0.toList = []) = True := eq_true he
 clear he
 clear hl hM hf ha hs hp hm hbase hC hu hut hll hcl hlt hg
 go_enter Try.func47, Try.ntmps47
 go_upto_if 37 with (first
  | (refine aV rfl 57 (.tmp 0) rfl _ rfl ?_; intro gX W1 J aa I; have cw := ge an J; have aA := ak (an.out.trans (I.mono an.out.size)); have bJ := mv I bU; have ea := mv I eT; have bC := mv I bl; have ee := mv I eR; have b7 := mv I cb; have au := ak (aa); clear J aa I an bU eT bl eR cb)
  | (refine aV rfl 62 (.tmp 1) rfl _ rfl ?_; intro gY W2 J aa I; have jT := ge aA J; have gC := ne au J; have aK := mv I aA; have ch := mv I bJ; have er := mv I ea; have b4 := mv I bC; have ej := mv I ee; have dm := mv I b7; have aI := mv I au; have dk := ak (aa); clear J aa I aA bJ ea bC ee b7 au)
  | (refine aV rfl 79 (.tmp 2) rfl _ rfl ?_; intro gT W3 J aa I; have ld := ge aK J; have iL := ne aI J; have jf := ne dk J; have aT := mv I aK; have cW := mv I ch; have eG := mv I er; have cH := mv I b4; have eN := mv I ej; have dT := mv I dm; have aQ := mv I aI; have dj := mv I dk; have ey := ak (aa); clear J aa I aK ch er b4 ej dm aI dk)
  | (refine aH (some 6) rfl rfl 57 rfl bu b6 ?_; intro gZ W4 J aa I; have ct := ge aT J; have aU := ne aQ J; have gS := ne dj J; have ky := ne ey J; have bq := mv I aT; have cU := mv I cW; have eo := mv I eG; have dC := mv I cH; have fg := mv I eN; have dZ := mv I dT; have bg := mv I aQ; have di := mv I dj; have eF := mv I ey; have bB := ak (aa); clear J aa I aT cW eG cH eN dT aQ dj ey)
  | (refine aH (some 7) rfl rfl 62 rfl dW (fun _ => by kernel_rfl) ?_; intro gU W5 J aa I; have fR := ge bq J; have ig := ne bg J; have dO := ne di J; have jI := ne eF J; have iA := ne bB J; have bE := mv I bq; have cQ := mv I cU; have dJ := mv I eo; have dG := mv I dC; have eV := mv I fg; have dw := mv I dZ; have bz := mv I bg; have dY := mv I di; have bQ := mv I eF; have bY := mv I bB; have ff := ak (aa); have kt := bQ.out.cell 0 _ rfl; have iK := bQ.out.cell 1 _ rfl; have ks := bQ.out.cell 2 _ rfl; have kr := bQ.out.cell 3 _ rfl; have kp := bQ.out.cell 4 _ rfl; have ix := bQ.out.cell 5 _ rfl; clear J aa I bq cU eo dC fg dZ bg di eF bB))
 go_cut [9] from 38 to 39 (fun s9 wx => s9 = .slice Al lt.length cl ∧ W5 = wx)
 case first =>
  rcases Nat.lt_or_ge 80 l.length with mA | mA
  ·have mz : decide ((80 : Int) < (l.length : Int)) = true := by simp; omega
   have wI : (((0 : Int) ≤ 80 ∧ (80 : Int) ≤ (cl : Int)) = True) := eq_true ⟨by omega, by have := HCL.out; omega⟩
   have wH : (((80 : Int) ≤ (cl : Int)) = True) := eq_true (by have := HCL.out; omega)
   go_wp2_with fail
   go_meet
   exact ⟨by rw [HLL.out, Nat.min_eq_left (by omega)], rfl⟩
  ·have mz : decide ((80 : Int) < (l.length : Int)) = false := by simp; omega
   go_wp2_with fail
   go_meet
   exact ⟨by rw [HLL.out, Nat.min_eq_right (by omega)], rfl⟩
 case rest =>
 obtain ⟨ic, ib⟩ := hcut
 subst ic
 subst ib
 go_wp2_with fail
 have aq : Below W5.heap.size W5 W5.drew := bL (Below.refl _ _)
 have bZ := mv aq bE; have dD := mv aq cQ; have ef := mv aq dJ; have dN := mv aq dG; have eU := mv aq eV; have ez := mv aq dw; have bH := mv aq bz; have du := mv aq dY; have fJ := mv aq bQ; have cn := mv aq bY; have dI := mv aq ff
 clear aq bE cQ dJ dG eV dw bz dY bQ bY ff kt iK ks kr kp ix
 have hB := bZ
 have hF := dD
 have hG := ef
 have hS := dN
 have hP := eU
 have hM := ez
 have hX := bH
 have hY := du
 have hT := fJ
 have hZ := cn
 have hU := dI
 clear bZ dD ef dN eU ez bH du fJ cn dI
 refine dR (n := 5) (S := fun w' => aX w' gX (bk b.addr b.aff b.slots (.slice Af b.free.length cf) (.slice Aa b.attrs.length ca)) 57 ∧ aX w' gY (dH b.addr b.aff (.slice As b.slots.length cs) (.slice Ap b.free.length cp) (.slice Am M.length cm)) 62) (ds := []) #[false, false, false, false, false] (by kernel_rfl) rfl rfl ⟨hX.out, hY.out⟩ (fun hHeld => ?_); refine b5 mW.tab37 mW.bits37 (fun ag bM => ?_)
 refine tk 0 ag.out bM.out hHeld ?_ (hv := by exact fun _ bj => aY 57 (.tmp 3) rfl gX rfl _ _ _ bj.1 Try.underlying57 rfl HLB.out)
 refine tk 1 ag.out bM.out hHeld ?_ (hv := by exact fun _ bj => aY 62 (.tmp 4) rfl gY rfl _ _ _ bj.2 Try.underlying62 rfl (by kernel_rfl))
 refine ow 2 ag.out (fun K hK => ?_)
 refine bS (by rfl) rfl 57 (.tmp 6) (.tmp 235) rfl gZ (bk b.addr b.aff b.slots (.slice Af b.free.length cf) (.slice Aa b.attrs.length ca)) rfl rfl 57 _ hZ.out 68 (by kernel_rfl) (ao _ _ _ _ _ HL.out) rfl (cA _ _ _ _ _ rfl rfl) ?_
 intro V2 aa J; replace hB := gb hB ct J; replace hF := gr hF hZ J; replace hG := gr hG hZ J; replace hS := gr hS hZ J; replace hP := gr hP hZ J; replace hM := gr hM hZ J; replace hX := gn hX aU J; replace hY := gx hY hZ J; replace hT := gx hT hZ J; replace hU := gx hU hZ J; replace hZ := ak (aa); clear aa J
 refine hK.out _ _ ⟨hX.out, hY.out⟩ (fun hHeld => ?_)
 clear hK K
 refine ow 3 ag.out (fun K hK => ?_)
 refine bS (by rfl) rfl 62 (.tmp 7) (.tmp 236) rfl gU (dH b.addr b.aff (.slice As b.slots.length cs) (.slice Ap b.free.length cp) (.slice Am M.length cm)) rfl rfl 62 _ hU.out 5 (by kernel_rfl) rfl rfl (et _ _ rfl rfl rfl) ?_
 intro V3 aa J; replace hB := gb hB fR J; replace hF := gr hF hU J; replace hG := gr hG hU J; replace hS := gr hS hU J; replace hP := gr hP hU J; replace hM := gr hM hU J; replace hX := gx hX hU J; replace hY := gn hY dO J; replace hT := gx hT hU J; replace hZ := gx hZ hU J; replace hU := ak (aa); clear aa J
 refine hK.out _ _ ⟨hX.out, hY.out⟩ (fun hHeld => ?_)
 clear hK K
 refine pu 4 ag.out ?_
 refine dn ag.out ?_
 clear hHeld
 go_wp2_with fail
 refine bodyPost_ret (fD rfl _ _ _ gZ gU 57 62 _ _ _ _ rfl hZ.out rfl Try.underlying57 (by first | exact HLB.out | exact HLN _ _ _ _) rfl hU.out rfl Try.underlying62 (by kernel_rfl)) rfl ⟨_, _, b, rfl, ?_, ?_, ?_, hB.out⟩
 ·exact HG.out
 ·exact ⟨HL.out, _, _, rfl, hF.out, hG.out⟩
 ·exact ⟨_, _, _, rfl, hS.out, hP.out, by rw [← HM.out]; exact hM.out⟩
set_option maxHeartbeats 16000000 in
set_option maxRecDepth 100000 in
theorem Pk (b : Bk) (hg : RG b) (n : Int) (hn : n < 9223372036854775808) (a : lN) (fE : a.f0.size ≤ 9223372036854775807) (gh : a.f1.size ≤ 9223372036854775807) (l : List Int) (hu : ∀ x ∈ l, 0 ≤ x ∧ x < 4294967296) (hlm : l.length ≤ 9223372036854775807) (Al : Option Addr) (cl : Nat) (hcl : l.length ≤ cl) (aff : ByteArray) (hza : aff.size ≤ 9223372036854775807) (he : a.f0.toList ≠ []) (v v2 : Value) (w : World) (base : Nat) (hbase : base ≤ w.heap.size) (hO : eP w base v b) (hR : fw w base v2 b) (hC : Kd.C (Kd.int .u32) w Al l.length l) :
  Calls Try.prog 47 #[v, v2, .agg #[.int .i64 5, .int .i64 n, .string a.f0, .string a.f1, .slice Al l.length cl, .string aff]] w fun e w' => ∃ v1 v2 b', e = .returned (.tuple #[v1, v2, .bool true]) ∧ RG b' ∧ eP w' base v1 b' ∧ fw w' base v2 b' ∧ Below w.heap.size w w' := by
 obtain ⟨hl, vf, va, rfl, hf, ha⟩ := hO
 obtain ⟨vs, vp, vm, rfl, hs, hp, hm⟩ := hR
 obtain ⟨Af, cf, rfl⟩ := Kd.R_slice hf
 obtain ⟨Aa, ca, rfl⟩ := Kd.R_slice ha
 obtain ⟨As, cs, rfl⟩ := Kd.R_slice hs
 obtain ⟨Ap, cp, rfl⟩ := Kd.R_slice hp
 obtain ⟨M, hM⟩ : ∃ M, M = b.attrs.map vc := ⟨_, rfl⟩
 rw [← hM] at hm
 obtain ⟨Am, cm, rfl⟩ := Kd.R_slice hm
 have HL := ak hl
 have HM := ak hM
 have bU := ak hf
 have eT := ak ha
 have bl := ak hs
 have eR := ak hp
 have cb := ak hm
 have HG := ak hg
 have an := ak (Below.refl w.heap.size w)
 have HBASE := ak hbase
 have HLB := ak (dc (bk b.addr b.aff b.slots (.slice Af b.free.length cf) (.slice Aa b.attrs.length ca)) (ao _ _ _ _ _ HL.out))
 obtain ⟨lt, hlt⟩ : ∃ lt, lt = l.take 80 := ⟨_, rfl⟩
 have hut : ∀ x ∈ lt, 0 ≤ x ∧ x < 4294967296 := fun x hx => hu x (by rw [hlt] at hx; exact List.mem_of_mem_take hx)
 have hll : lt.length = min 80 l.length := by rw [hlt, List.length_take]
 have HCL := ak hcl
 have HLL := ak hll
 have HC := ak hC
 have HCT := ak (fun W (I : Below w.heap.size w W) => (show Kd.C (Kd.int .u32) W Al lt.length lt by
  rcases Nat.lt_or_ge 80 l.length with h | h
  ·have h_ := Kd.C_take (m := 80) (Kd.C_below hC I) (by omega)
   rw [← hlt] at h_
   exact h_
  ·have h_ := Kd.C_below hC I
   have e : lt = l := by rw [hlt, List.take_of_length_le h]
   rw [e]
   exact h_))
 have hp := jD hg.right
 have hpq : ((fun x => x.f0.toList == a.f0.toList) : At → Bool) = pG a.f0 ⟨#[]⟩ := by
  funext x
  unfold pG
  have h1 : (a.f0.toList == (⟨#[]⟩ : ByteArray).toList) = false := by simpa using he
  have h2 : ((⟨#[]⟩ : ByteArray).toList == (⟨#[]⟩ : ByteArray).toList) = true := beq_self_eq_true _
  rw [h1, h2]
  simp
 have hbl := fun v w h => CO b hg.ok a.f0 hg.right v w h
 have hgv := fun v w h => zu b hg.ok hp hl a.f0 ⟨#[]⟩ v w h
 rw [hpq] at hbl
 have hur : ∀ x ∈ fb b (pG a.f0 ⟨#[]⟩) 64, 0 ≤ x ∧ x < 4294967296 := pd hg.ok hp.first _
 have hulen := km b (pG a.f0 ⟨#[]⟩) 64
 obtain ⟨ul, hul⟩ : ∃ ul, ul = fb b (pG a.f0 ⟨#[]⟩) 64 := ⟨_, rfl⟩
 rw [← hul] at hbl hgv hur hulen
 have hrg := hg.rel ul
 have hrl := fun Al cl v w h hC => rY b hg.ok hp hl ul hur (by omega) Al cl v w h hC
 rw [yY hg] at hrl
 obtain ⟨nb, hnb⟩ : ∃ nb, nb = mV b ul := ⟨_, rfl⟩
 obtain ⟨oo, hoo⟩ : ∃ oo, oo = (relL b ul).2 := ⟨_, rfl⟩
 rw [← hnb, ← hoo] at hbl hrl
 rw [← hnb] at hrg
 have hol : oo.length ≤ 1000 := by rw [hoo]; have h_ := (uW hg.ok hp hl ul ul.length (Nat.le_refl _)).ol; rw [List.take_length] at h_; omega
 have HRG := ak hrg
 have HNL := ak hrg.l64
 have HOL := ak hol
 have HLN := fun A8 c8 A9 c9 => dc (bk nb.addr nb.aff nb.slots (.slice A8 nb.free.length c8) (.slice A9 nb.attrs.length c9)) (ao _ _ _ _ _ HNL.out)
 have q0 : (a.f0.toList == []) = false := by simpa using he
 have q1 : a.f0.toList.isEmpty = false := by simpa using he
 have q2 : (a.f0.toList = []) = False := eq_false he
 have HBL := ak hbl
 have HRL := ak hrl
 have HGV := ak hgv
 clear hrg hbl hrl hgv hol hnb hoo hp hpq hur hul hulen he
 clear hl hM hf ha hs hp hm hbase hC hu hut hll hcl hlt hg
 go_enter Try.func47, Try.ntmps47
 go_upto_if 37 with (first
  | (refine aV rfl 57 (.tmp 0) rfl _ rfl ?_; intro gX W1 J aa I; have cw := ge an J; have aA := ak (an.out.trans (I.mono an.out.size)); have bJ := mv I bU; have ea := mv I eT; have bC := mv I bl; have ee := mv I eR; have b7 := mv I cb; have au := ak (aa); clear J aa I an bU eT bl eR cb)
  | (refine aV rfl 62 (.tmp 1) rfl _ rfl ?_; intro gY W2 J aa I; have jT := ge aA J; have gC := ne au J; have aK := mv I aA; have ch := mv I bJ; have er := mv I ea; have b4 := mv I bC; have ej := mv I ee; have dm := mv I b7; have aI := mv I au; have dk := ak (aa); clear J aa I aA bJ ea bC ee b7 au)
  | (refine aV rfl 79 (.tmp 2) rfl _ rfl ?_; intro gT W3 J aa I; have ld := ge aK J; have iL := ne aI J; have jf := ne dk J; have aT := mv I aK; have cW := mv I ch; have eG := mv I er; have cH := mv I b4; have eN := mv I ej; have dT := mv I dm; have aQ := mv I aI; have dj := mv I dk; have ey := ak (aa); clear J aa I aK ch er b4 ej dm aI dk)
  | (refine aH (some 6) rfl rfl 57 rfl bu b6 ?_; intro gZ W4 J aa I; have ct := ge aT J; have aU := ne aQ J; have gS := ne dj J; have ky := ne ey J; have bq := mv I aT; have cU := mv I cW; have eo := mv I eG; have dC := mv I cH; have fg := mv I eN; have dZ := mv I dT; have bg := mv I aQ; have di := mv I dj; have eF := mv I ey; have bB := ak (aa); clear J aa I aT cW eG cH eN dT aQ dj ey)
  | (refine aH (some 7) rfl rfl 62 rfl dW (fun _ => by kernel_rfl) ?_; intro gU W5 J aa I; have fR := ge bq J; have ig := ne bg J; have dO := ne di J; have jI := ne eF J; have iA := ne bB J; have bE := mv I bq; have cQ := mv I cU; have dJ := mv I eo; have dG := mv I dC; have eV := mv I fg; have dw := mv I dZ; have bz := mv I bg; have dY := mv I di; have bQ := mv I eF; have bY := mv I bB; have ff := ak (aa); have kt := bQ.out.cell 0 _ rfl; have iK := bQ.out.cell 1 _ rfl; have ks := bQ.out.cell 2 _ rfl; have kr := bQ.out.cell 3 _ rfl; have kp := bQ.out.cell 4 _ rfl; have ix := bQ.out.cell 5 _ rfl; clear J aa I bq cU eo dC fg dZ bg di eF bB))
 go_cut [9] from 38 to 39 (fun s9 wx => s9 = .slice Al lt.length cl ∧ W5 = wx)
 case first =>
  rcases Nat.lt_or_ge 80 l.length with mA | mA
  ·have mz : decide ((80 : Int) < (l.length : Int)) = true := by simp; omega
   have wI : (((0 : Int) ≤ 80 ∧ (80 : Int) ≤ (cl : Int)) = True) := eq_true ⟨by omega, by have := HCL.out; omega⟩
   have wH : (((80 : Int) ≤ (cl : Int)) = True) := eq_true (by have := HCL.out; omega)
   go_wp2_with fail
   go_meet
   exact ⟨by rw [HLL.out, Nat.min_eq_left (by omega)], rfl⟩
  ·have mz : decide ((80 : Int) < (l.length : Int)) = false := by simp; omega
   go_wp2_with fail
   go_meet
   exact ⟨by rw [HLL.out, Nat.min_eq_right (by omega)], rfl⟩
 case rest =>
 obtain ⟨ic, ib⟩ := hcut
 subst ic
 subst ib
 go_wp2_with (first
  | ((with_reducible refine aJ (N := 144) rfl ?_); refine aN rfl 57 (.tmp 3) rfl gX rfl _ _ _ bz.out Try.underlying57 rfl 68 (by kernel_rfl) (ao _ _ _ _ _ HL.out) ?_)
  | (go_at_call 53; refine (HBL.out _ _ ⟨_, _, _, _, rfl, ⟨HL.out, (rr cQ).1, (rr cQ).2, (rr dJ).1, (rr dJ).2⟩⟩).mono ?_; rintro e W6 ⟨v_, ml, rfl, bc, fM, I⟩; have HSZ := ak (lb HBASE bE); obtain ⟨iZ, p6, p7, rfl, dM, ew⟩ := bc; obtain ⟨A8, c8, rfl⟩ := Kd.R_slice dM; obtain ⟨A9, c9, rfl⟩ := Kd.R_slice ew; obtain ⟨Ao, co, rfl⟩ := Kd.R_slice fM; have bZ := mv I bE; have dD := mv I cQ; have ef := mv I dJ; have dN := mv I dG; have eU := mv I eV; have ez := mv I dw; have bH := mv I bz; have du := mv I dY; have fJ := mv I bQ; have cn := mv I bY; have dI := mv I ff; have nI := ak (Kd.R_lower dM HSZ.out); have nF := ak (Kd.R_lower ew HSZ.out); have od := ak (Kd.R_lower fM HSZ.out); clear HSZ iZ dM ew fM I bE cQ dJ dG eV dw bz dY bQ bY ff kt iK ks kr kp ix)
  | (refine aH (some 20) rfl rfl 57 rfl bu b6 ?_; intro gQ W7 J aa I; have dr := ge bZ J; have bI := ne bH J; have wh := ne du J; have wj := ne fJ J; have bs := ne cn J; have wi := ne dI J; have eH := mv I bZ; have fA := mv I dD; have ji := mv I ef; have gq := mv I dN; have l4 := mv I eU; have ju := mv I ez; have dP := mv I bH; have iY := mv I du; have nB := mv I fJ; have ep := mv I cn; have nA := mv I dI; have nH := mv I nI; have nE := mv I nF; have kX := mv I od; have en := ak (aa); clear J aa I bZ dD ef dN eU ez bH du fJ cn dI nI nF od)
  | (refine a7 rfl 57 (.tmp 20) (.tmp 149) rfl gQ (bk nb.addr nb.aff nb.slots (.slice A8 nb.free.length c8) (.slice A9 nb.attrs.length c9)) rfl rfl 57 _ en.out 68 (by kernel_rfl) (ao _ _ _ _ _ HNL.out) rfl (cA _ _ _ _ _ rfl rfl) ?_; intro W8 aa J; have gJ := gb eH dr J; have jw := gr fA en J; have jv := gr ji en J; have kI := gr gq en J; have lJ := gr l4 en J; have lK := gr ju en J; have gH := gn dP bI J; have kG := gx iY en J; have mi := gx nB en J; have gG := gn ep bs J; have nz := gx nA en J; have nG := gr nH en J; have nD := gr nE en J; have rf := gr kX en J; have pQ := ak (aa); clear aa J eH fA ji gq l4 ju dP iY nB ep nA nH nE kX en))
 have aq : Below W8.heap.size W8 W8.drew := bL (Below.refl _ _)
 have lp := mv aq gJ; have oT := mv aq jw; have oS := mv aq jv; have mj := mv aq kI; have oP := mv aq lJ; have oQ := mv aq lK; have ln := mv aq gH; have mh := mv aq kG; have oc := mv aq mi; have kW := mv aq gG; have oN := mv aq nz; have pX := mv aq nG; have pV := mv aq nD; have xL := mv aq rf; have oO := mv aq pQ
 clear aq gJ jw jv kI lJ lK gH kG mi gG nz nG nD rf pQ
 have hB := lp
 have hF := oT
 have hG := oS
 have hS := mj
 have hP := oP
 have hM := oQ
 have hX := ln
 have hY := mh
 have hT := oc
 have hZ := kW
 have hU := oN
 have hC := pX
 have hD := pV
 have hO := xL
 have hQ := oO
 clear lp oT oS mj oP oQ ln mh oc kW oN pX pV xL oO
 refine dR (n := 13) (S := fun w' => aX w' gY (dH b.addr b.aff (.slice As b.slots.length cs) (.slice Ap b.free.length cp) (.slice Am M.length cm)) 62 ∧ aX w' gT [.int .i64 5, .int .i64 n, .string a.f0, .string a.f1, .slice Al l.length cl, .string aff] 79) (ds := []) #[false, false, false, false, false, false, false, false, false, false, false, false, false] (by kernel_rfl) rfl rfl ⟨hY.out, hT.out⟩ (fun hHeld => ?_); refine b5 tj.tab23 tj.bits23 (fun ag bM => ?_)
 refine tk 0 ag.out bM.out hHeld ?_ (hv := by exact fun _ bj => aY 62 (.tmp 4) rfl gY rfl _ _ _ bj.1 Try.underlying62 rfl (by kernel_rfl))
 refine tk 1 ag.out bM.out hHeld ?_ (hv := by exact fun _ bj => aY 62 (.tmp 4) rfl gY rfl _ _ _ bj.1 Try.underlying62 rfl (by kernel_rfl))
 refine pu 2 ag.out ?_
 refine pu 3 ag.out ?_
 refine tk 4 ag.out bM.out hHeld ?_ (hv := by intro w' bj; have Gc := bj.2.cell 2 _ rfl; go_simp; with_reducible rfl)
 refine ru (σ := Nat × Option Addr × Nat × Value × Value) 2 #[true, true, true, true, true, true, true, true, true, true, true, false, false] (fun s => [(158, .slice s.2.1 ul.length s.2.2.1), (159, .tuple #[s.2.2.2.1, s.2.2.2.2]), (152, .tuple #[s.2.2.2.1, s.2.2.2.2]), (160, s.2.2.2.1), (161, s.2.2.2.2), (23, .pointer (some ⟨s.1, 0, none⟩))]) (fun s w' => Aside0 (Below w.heap.size w w') ∧ Aside0 (Kd.R (Kd.int .u8) 5 w' base (fun _ => True) (.slice Af b.free.length cf) b.free) ∧ Aside0 (Kd.R lf 85 w' base (fun _ => True) (.slice Aa b.attrs.length ca) b.attrs) ∧ Aside0 (Kd.R (Kd.int .i64) 3 w' base (fun _ => True) (.slice As b.slots.length cs) b.slots) ∧ Aside0 (Kd.R (Kd.int .i64) 3 w' base (fun _ => True) (.slice Ap b.free.length cp) b.free) ∧ Aside0 (Kd.R ia 76 w' base (fun _ => True) (.slice Am M.length cm) M) ∧ Aside0 (aX w' gX (bk b.addr b.aff b.slots (.slice Af b.free.length cf) (.slice Aa b.attrs.length ca)) 57) ∧ Aside0 (aX w' gY (dH b.addr b.aff (.slice As b.slots.length cs) (.slice Ap b.free.length cp) (.slice Am M.length cm)) 62) ∧ Aside0 (aX w' gT [.int .i64 5, .int .i64 n, .string a.f0, .string a.f1, .slice Al l.length cl, .string aff] 79) ∧ Aside0 (aX w' gZ bu 57) ∧ Aside0 (aX w' gU dW 62) ∧ Aside0 (Kd.R (Kd.int .u8) 5 w' base (fun _ => True) (.slice A8 nb.free.length c8) nb.free) ∧ Aside0 (Kd.R lf 85 w' base (fun _ => True) (.slice A9 nb.attrs.length c9) nb.attrs) ∧ Aside0 (Kd.R (Kd.int .u32) 46 w' base (fun _ => True) (.slice Ao oo.length co) oo) ∧ Aside0 (aX w' gQ (bk nb.addr nb.aff nb.slots (.slice A8 nb.free.length c8) (.slice A9 nb.attrs.length c9)) 57) ∧ Aside0 (aX w' s.1 dW 62) ∧ Aside0 (w.heap.size ≤ s.1) ∧ Aside0 (gY ≠ s.1) ∧ Aside0 (gU ≠ s.1) ∧ Aside0 (Kd.R (Kd.int .u32) 46 w' base (fun _ => True) (.slice s.2.1 ul.length s.2.2.1) ul) ∧ Aside0 (fw w' base s.2.2.2.1 nb) ∧ Aside0 (Kd.R (Kd.int .u32) 46 w' base (fun _ => True) s.2.2.2.2 oo)) ?_ ?_
 rotate_left
 ·intro fe
  refine tw 5 10 ag.out (fun K hK => ?_) (fun K hK => ?_)
  ·skip
   refine gs Try.func63 #[.agg (dH b.addr b.aff (.slice As b.slots.length cs) (.slice Ap b.free.length cp) (.slice Am M.length cm)).toArray, .string a.f0, .string ⟨#[]⟩] (HGV.out _ _ ⟨M, As, cs, Ap, cp, Am, cm, rfl, (jL.of HM.out hS.out hP.out hM.out)⟩) ?_
   rintro e V5 ⟨P3, rfl, sE, I⟩
   refine ⟨_, rfl, ?_⟩
   have hL := ak (Kd.R_lower sE (lb HBASE hB)); obtain ⟨Au, cu, rfl⟩ := Kd.R_slice hL.out; (try replace hV := mv I hV); replace hB := mv I hB; replace hF := mv I hF; replace hG := mv I hG; replace hS := mv I hS; replace hP := mv I hP; replace hM := mv I hM; replace hX := mv I hX; replace hY := mv I hY; replace hT := mv I hT; replace hZ := mv I hZ; replace hU := mv I hU; replace hC := mv I hC; replace hD := mv I hD; replace hO := mv I hO; replace hQ := mv I hQ; clear sE I
   refine kn hK ⟨hY.out, hT.out⟩ (fun hHeld => ?_)
   clear hK K
   refine tw 6 10 ag.out (fun K hK => ?_) (fun K hK => ?_)
   ·skip
    refine gs Try.func84 #[.agg (dH b.addr b.aff (.slice As b.slots.length cs) (.slice Ap b.free.length cp) (.slice Am M.length cm)).toArray, .slice Au ul.length cu] (HRL.out _ _ _ _ ⟨M, As, cs, Ap, cp, Am, cm, rfl, (jL.of HM.out hS.out hP.out hM.out)⟩ (Kd.R_reads' hL.out).2.2) ?_
    rintro e V6 ⟨v9, rR, rfl, fS, mr, I⟩
    refine ⟨_, rfl, ?_⟩
    have lD := ak (fw.lower' fS (lb HBASE hB)); have ei := ak (Kd.R_lower mr (lb HBASE hB)); (try replace hL := mv I hL); (try replace hV := mv I hV); replace hB := mv I hB; replace hF := mv I hF; replace hG := mv I hG; replace hS := mv I hS; replace hP := mv I hP; replace hM := mv I hM; replace hX := mv I hX; replace hY := mv I hY; replace hT := mv I hT; replace hZ := mv I hZ; replace hU := mv I hU; replace hC := mv I hC; replace hD := mv I hD; replace hO := mv I hO; replace hQ := mv I hQ; clear fS mr I
    refine kn hK ⟨hY.out, hT.out⟩ (fun hHeld => ?_)
    clear hK K
    refine pu 7 ag.out ?_
    refine pu 8 ag.out ?_
    refine pu 9 ag.out ?_
    refine on 10 ag.out (fun K hK => ?_)
    refine eJ (by rfl) 62 rfl dW (fun _ => by kernel_rfl) ?_
    intro gV zP J aa I
    have dQ := ge hB J
    have fp := ne hY J
    have eO := ne hU J
    (try replace hL := mv I hL)
    (try replace lD := mv I lD)
    (try replace ei := mv I ei)
    replace hB := mv I hB
    replace hF := mv I hF
    replace hG := mv I hG
    replace hS := mv I hS
    replace hP := mv I hP
    replace hM := mv I hM
    replace hX := mv I hX
    replace hY := mv I hY
    replace hT := mv I hT
    replace hZ := mv I hZ
    replace hU := mv I hU
    replace hC := mv I hC
    replace hD := mv I hD
    replace hO := mv I hO
    replace hQ := mv I hQ
    have hV := ak aa
    clear J aa I
    refine kn hK ⟨hY.out, hT.out⟩ (fun hHeld => ?_)
    clear hK K
    exact nc (fe ⟨gV, Au, cu, v9, rR⟩ _ ⟨hB, hF, hG, hS, hP, hM, hX, hY, hT, hZ, hU, hC, hD, hO, hQ, hV, dQ, fp, eO, hL, lD, ei⟩)
   ·skip
    refine eJ (by rfl) 62 rfl dW (fun _ => by kernel_rfl) ?_
    intro gV zP J aa I
    have dQ := ge hB J
    have fp := ne hY J
    have eO := ne hU J
    (try replace hL := mv I hL)
    (try replace lD := mv I lD)
    (try replace ei := mv I ei)
    replace hB := mv I hB
    replace hF := mv I hF
    replace hG := mv I hG
    replace hS := mv I hS
    replace hP := mv I hP
    replace hM := mv I hM
    replace hX := mv I hX
    replace hY := mv I hY
    replace hT := mv I hT
    replace hZ := mv I hZ
    replace hU := mv I hU
    replace hC := mv I hC
    replace hD := mv I hD
    replace hO := mv I hO
    replace hQ := mv I hQ
    have hV := ak aa
    clear J aa I
    refine kn hK ⟨hY.out, hT.out⟩ (fun hHeld => ?_)
    clear hK K
    refine on 6 ag.out (fun K hK => ?_)
    refine gs Try.func84 #[.agg (dH b.addr b.aff (.slice As b.slots.length cs) (.slice Ap b.free.length cp) (.slice Am M.length cm)).toArray, .slice Au ul.length cu] (HRL.out _ _ _ _ ⟨M, As, cs, Ap, cp, Am, cm, rfl, (jL.of HM.out hS.out hP.out hM.out)⟩ (Kd.R_reads' hL.out).2.2) ?_
    rintro e V6 ⟨v9, rR, rfl, fS, mr, I⟩
    refine ⟨_, rfl, ?_⟩
    have lD := ak (fw.lower' fS (lb HBASE hB)); have ei := ak (Kd.R_lower mr (lb HBASE hB)); (try replace hL := mv I hL); (try replace hV := mv I hV); replace hB := mv I hB; replace hF := mv I hF; replace hG := mv I hG; replace hS := mv I hS; replace hP := mv I hP; replace hM := mv I hM; replace hX := mv I hX; replace hY := mv I hY; replace hT := mv I hT; replace hZ := mv I hZ; replace hU := mv I hU; replace hC := mv I hC; replace hD := mv I hD; replace hO := mv I hO; replace hQ := mv I hQ; clear fS mr I
    refine kn hK ⟨hY.out, hT.out⟩ (fun hHeld => ?_)
    clear hK K
    refine pu 7 ag.out ?_
    refine pu 8 ag.out ?_
    refine pu 9 ag.out ?_
    exact nc (fe ⟨gV, Au, cu, v9, rR⟩ _ ⟨hB, hF, hG, hS, hP, hM, hX, hY, hT, hZ, hU, hC, hD, hO, hQ, hV, dQ, fp, eO, hL, lD, ei⟩)
  ·skip
   refine eJ (by rfl) 62 rfl dW (fun _ => by kernel_rfl) ?_
   intro gV zP J aa I
   have dQ := ge hB J
   have fp := ne hY J
   have eO := ne hU J
   (try replace hL := mv I hL)
   (try replace lD := mv I lD)
   (try replace ei := mv I ei)
   replace hB := mv I hB
   replace hF := mv I hF
   replace hG := mv I hG
   replace hS := mv I hS
   replace hP := mv I hP
   replace hM := mv I hM
   replace hX := mv I hX
   replace hY := mv I hY
   replace hT := mv I hT
   replace hZ := mv I hZ
   replace hU := mv I hU
   replace hC := mv I hC
   replace hD := mv I hD
   replace hO := mv I hO
   replace hQ := mv I hQ
   have hV := ak aa
   clear J aa I
   refine kn hK ⟨hY.out, hT.out⟩ (fun hHeld => ?_)
   clear hK K
   refine on 5 ag.out (fun K hK => ?_)
   refine gs Try.func63 #[.agg (dH b.addr b.aff (.slice As b.slots.length cs) (.slice Ap b.free.length cp) (.slice Am M.length cm)).toArray, .string a.f0, .string ⟨#[]⟩] (HGV.out _ _ ⟨M, As, cs, Ap, cp, Am, cm, rfl, (jL.of HM.out hS.out hP.out hM.out)⟩) ?_
   rintro e V5 ⟨P3, rfl, sE, I⟩
   refine ⟨_, rfl, ?_⟩
   have hL := ak (Kd.R_lower sE (lb HBASE hB)); obtain ⟨Au, cu, rfl⟩ := Kd.R_slice hL.out; (try replace hV := mv I hV); replace hB := mv I hB; replace hF := mv I hF; replace hG := mv I hG; replace hS := mv I hS; replace hP := mv I hP; replace hM := mv I hM; replace hX := mv I hX; replace hY := mv I hY; replace hT := mv I hT; replace hZ := mv I hZ; replace hU := mv I hU; replace hC := mv I hC; replace hD := mv I hD; replace hO := mv I hO; replace hQ := mv I hQ; clear sE I
   refine kn hK ⟨hY.out, hT.out⟩ (fun hHeld => ?_)
   clear hK K
   refine on 6 ag.out (fun K hK => ?_)
   refine gs Try.func84 #[.agg (dH b.addr b.aff (.slice As b.slots.length cs) (.slice Ap b.free.length cp) (.slice Am M.length cm)).toArray, .slice Au ul.length cu] (HRL.out _ _ _ _ ⟨M, As, cs, Ap, cp, Am, cm, rfl, (jL.of HM.out hS.out hP.out hM.out)⟩ (Kd.R_reads' hL.out).2.2) ?_
   rintro e V6 ⟨v9, rR, rfl, fS, mr, I⟩
   refine ⟨_, rfl, ?_⟩
   have lD := ak (fw.lower' fS (lb HBASE hB)); have ei := ak (Kd.R_lower mr (lb HBASE hB)); (try replace hL := mv I hL); (try replace hV := mv I hV); replace hB := mv I hB; replace hF := mv I hF; replace hG := mv I hG; replace hS := mv I hS; replace hP := mv I hP; replace hM := mv I hM; replace hX := mv I hX; replace hY := mv I hY; replace hT := mv I hT; replace hZ := mv I hZ; replace hU := mv I hU; replace hC := mv I hC; replace hD := mv I hD; replace hO := mv I hO; replace hQ := mv I hQ; clear fS mr I
   refine kn hK ⟨hY.out, hT.out⟩ (fun hHeld => ?_)
   clear hK K
   refine pu 7 ag.out ?_
   refine pu 8 ag.out ?_
   refine pu 9 ag.out ?_
   exact nc (fe ⟨gV, Au, cu, v9, rR⟩ _ ⟨hB, hF, hG, hS, hP, hM, hX, hY, hT, hZ, hU, hC, hD, hO, hQ, hV, dQ, fp, eO, hL, lD, ei⟩)
 intro s w' hFF; obtain ⟨gV, Au, cu, v9, rR⟩ := s; simp only at hFF; obtain ⟨hB, hF, hG, hS, hP, hM, hX, hY, hT, hZ, hU, hC, hD, hO, hQ, hV, dQ, fp, eO, hL, lD, ei⟩ := hFF; have fS := lD.out; obtain ⟨wZ, sZ, ta, rfl, ie, fP, fi⟩ := fS; obtain ⟨A1, c1, rfl⟩ := Kd.R_slice ie; obtain ⟨A2, c2, rfl⟩ := Kd.R_slice fP; obtain ⟨NM, hNM⟩ : ∃ NM, NM = nb.attrs.map vc := ⟨_, rfl⟩; rw [← hNM] at fi; have HNM := ak hNM; obtain ⟨A3, c3, rfl⟩ := Kd.R_slice fi; obtain ⟨Fg, EE, rfl⟩ := Kd.R_slice ei.out; have hI := ak ie; have hJ := ak fP; have hE := ak fi; have iw := ei; clear hL lD ei hNM ie fP fi
 refine nj ?_
 refine ow 11 ag.out (fun K hK => ?_)
 refine bS (by rfl) rfl 62 (.tmp 23) (.tmp 160) rfl gV (dH nb.addr nb.aff (.slice A1 nb.slots.length c1) (.slice A2 nb.free.length c2) (.slice A3 NM.length c3)) rfl rfl 62 _ hV.out 5 (by kernel_rfl) rfl rfl (et _ _ rfl rfl rfl) ?_
 intro p9 aa J; replace hB := gb hB dQ J; replace hF := gr hF hV J; replace hG := gr hG hV J; replace hS := gr hS hV J; replace hP := gr hP hV J; replace hM := gr hM hV J; replace hX := gx hX hV J; replace hY := gn hY fp J; replace hT := gx hT hV J; replace hZ := gx hZ hV J; replace hU := gn hU eO J; replace hC := gr hC hV J; replace hD := gr hD hV J; replace hO := gr hO hV J; replace hQ := gx hQ hV J; replace hI := gr hI hV J; replace hJ := gr hJ hV J; replace hE := gr hE hV J; replace iw := gr iw hV J; replace hV := ak (aa); clear aa J
 refine hK.out _ _ ⟨hY.out, hT.out⟩ (fun hHeld => ?_)
 clear hK K
 refine pu 12 ag.out ?_
 refine dn ag.out ?_
 clear hHeld
 go_wp2_with fail
 have aq : Below p9.heap.size p9 p9.drew := bL (Below.refl _ _)
 have Bt := mv aq hB; have AY := mv aq hF; have AQ := mv aq hG; have Ab := mv aq hS; have An := mv aq hP; have Ay := mv aq hM; have zZ := mv aq hX; have zV := mv aq hY; have z8 := mv aq hT; have zS := mv aq hZ; have z4 := mv aq hU; have Bo := mv aq hC; have Bj := mv aq hD; have Ax := mv aq hO; have Ag := mv aq hQ; have z3 := mv aq hV; have AJ := mv aq hI; have AE := mv aq hJ; have Be := mv aq hE; have xM := mv aq iw
 clear aq hB hF hG hS hP hM hX hY hT hZ hU hC hD hO hQ hV hI hJ hE iw
 have hB := Bt
 have hF := AY
 have hG := AQ
 have hS := Ab
 have hP := An
 have hM := Ay
 have hX := zZ
 have hY := zV
 have hT := z8
 have hZ := zS
 have hU := z4
 have hC := Bo
 have hD := Bj
 have hO := Ax
 have hQ := Ag
 have hV := z3
 have hI := AJ
 have hJ := AE
 have hE := Be
 have iw := xM
 clear Bt AY AQ Ab An Ay zZ zV z8 zS z4 Bo Bj Ax Ag z3 AJ AE Be xM
 refine dR (n := 12) (S := fun w' => aX w' gQ (bk nb.addr nb.aff nb.slots (.slice A8 nb.free.length c8) (.slice A9 nb.attrs.length c9)) 57 ∧ aX w' gV (dH nb.addr nb.aff (.slice A1 nb.slots.length c1) (.slice A2 nb.free.length c2) (.slice A3 NM.length c3)) 62) (ds := []) #[false, false, false, false, false, false, false, false, false, false, false, false] (by kernel_rfl) rfl rfl ⟨hQ.out, hV.out⟩ (fun hHeld => ?_); refine b5 ti.tab24 ti.bits24 (fun ag bM => ?_)
 refine tk 0 ag.out bM.out hHeld ?_ (hv := by exact fun _ bj => aY 57 (.tmp 20) rfl gQ rfl _ _ _ bj.1 Try.underlying57 rfl (HLN _ _ _ _))
 refine tk 1 ag.out bM.out hHeld ?_ (hv := by exact fun _ bj => aY 62 (.tmp 23) rfl gV rfl _ _ _ bj.2 Try.underlying62 rfl (by kernel_rfl))
 refine pu 2 ag.out ?_
 refine pu 3 ag.out ?_
 refine pu 4 ag.out ?_
 refine pu 5 ag.out ?_
 refine pu 6 ag.out ?_
 refine on 7 ag.out (fun K hK => ?_)
 refine gs Try.func61 #[(.slice Ao oo.length co), (.slice Fg oo.length EE)] (rB oo HOL.out _ _ _ _ _ (Kd.R_reads' hO.out).2.2 (Kd.R_reads' hO.out).2.1 (Kd.R_reads' iw.out).2.2 (Kd.R_reads' iw.out).2.1) ?_
 rintro e V7 ⟨rfl, I⟩
 refine ⟨_, rfl, ?_⟩
 replace hB := mv I hB; replace hF := mv I hF; replace hG := mv I hG; replace hS := mv I hS; replace hP := mv I hP; replace hM := mv I hM; replace hX := mv I hX; replace hY := mv I hY; replace hT := mv I hT; replace hZ := mv I hZ; replace hU := mv I hU; replace hC := mv I hC; replace hD := mv I hD; replace hO := mv I hO; replace hQ := mv I hQ; replace hV := mv I hV; replace hI := mv I hI; replace hJ := mv I hJ; replace hE := mv I hE; replace iw := mv I iw
 refine kn hK ⟨hQ.out, hV.out⟩ (fun hHeld => ?_)
 clear hK K
 refine pu 8 ag.out ?_
 refine ow 9 ag.out (fun K hK => ?_)
 refine bS (by rfl) rfl 57 (.tmp 6) (.tmp 162) rfl gZ (bk nb.addr nb.aff nb.slots (.slice A8 nb.free.length c8) (.slice A9 nb.attrs.length c9)) rfl rfl 57 _ hZ.out 68 (by kernel_rfl) (ao _ _ _ _ _ HNL.out) rfl (cA _ _ _ _ _ rfl rfl) ?_
 intro V9 aa J; replace hB := gb hB ct J; replace hF := gr hF hZ J; replace hG := gr hG hZ J; replace hS := gr hS hZ J; replace hP := gr hP hZ J; replace hM := gr hM hZ J; replace hX := gn hX aU J; replace hY := gx hY hZ J; replace hT := gx hT hZ J; replace hU := gx hU hZ J; replace hC := gr hC hZ J; replace hD := gr hD hZ J; replace hO := gr hO hZ J; replace hQ := gm hQ bs J; replace hV := gx hV hZ J; replace hI := gr hI hZ J; replace hJ := gr hJ hZ J; replace hE := gr hE hZ J; replace iw := gr iw hZ J; replace hZ := ak (aa); clear aa J
 refine hK.out _ _ ⟨hQ.out, hV.out⟩ (fun hHeld => ?_)
 clear hK K
 refine ow 10 ag.out (fun K hK => ?_)
 refine bS (by rfl) rfl 62 (.tmp 7) (.tmp 163) rfl gU (dH nb.addr nb.aff (.slice A1 nb.slots.length c1) (.slice A2 nb.free.length c2) (.slice A3 NM.length c3)) rfl rfl 62 _ hU.out 5 (by kernel_rfl) rfl rfl (et _ _ rfl rfl rfl) ?_
 intro zP aa J; replace hB := gb hB fR J; replace hF := gr hF hU J; replace hG := gr hG hU J; replace hS := gr hS hU J; replace hP := gr hP hU J; replace hM := gr hM hU J; replace hX := gx hX hU J; replace hY := gn hY dO J; replace hT := gx hT hU J; replace hZ := gx hZ hU J; replace hC := gr hC hU J; replace hD := gr hD hU J; replace hO := gr hO hU J; replace hQ := gx hQ hU J; replace hV := gm hV eO J; replace hI := gr hI hU J; replace hJ := gr hJ hU J; replace hE := gr hE hU J; replace iw := gr iw hU J; replace hU := ak (aa); clear aa J
 refine hK.out _ _ ⟨hQ.out, hV.out⟩ (fun hHeld => ?_)
 clear hK K
 refine pu 11 ag.out ?_
 refine dn ag.out ?_
 clear hHeld
 go_wp2_with fail
 refine bodyPost_ret (fD rfl _ _ _ gZ gU 57 62 _ _ _ _ rfl hZ.out rfl Try.underlying57 (by first | exact HLB.out | exact HLN _ _ _ _) rfl hU.out rfl Try.underlying62 (by kernel_rfl)) rfl ⟨_, _, nb, rfl, ?_, ?_, ?_, hB.out⟩
 ·exact HRG.out
 ·exact ⟨HNL.out, _, _, rfl, hC.out, hD.out⟩
 ·exact ⟨_, _, _, rfl, hI.out, hJ.out, by rw [← HNM.out]; exact hE.out⟩
end Go.Proofs.Ytemhalnhbgkbcaa.V
end

section
namespace Go.Proofs.Ytemhalnhbgkbcaa.V
set_option maxHeartbeats 16000000 in
set_option maxRecDepth 100000 in
theorem KK (b : Bk) (hg : RG b) (n : Int) (hn : n < 9223372036854775808) (a : lN) (fE : a.f0.size ≤ 9223372036854775807) (gh : a.f1.size ≤ 9223372036854775807) (l : List Int) (hu : ∀ x ∈ l, 0 ≤ x ∧ x < 4294967296) (hlm : l.length ≤ 9223372036854775807) (Al : Option Addr) (cl : Nat) (hcl : l.length ≤ cl) (aff : ByteArray) (hza : aff.size ≤ 9223372036854775807) (he : a.f1.toList = []) (v v2 : Value) (w : World) (base : Nat) (hbase : base ≤ w.heap.size) (hO : eP w base v b) (hR : fw w base v2 b) (hC : Kd.C (Kd.int .u32) w Al l.length l) :
  Calls Try.prog 47 #[v, v2, .agg #[.int .i64 6, .int .i64 n, .string a.f0, .string a.f1, .slice Al l.length cl, .string aff]] w fun e w' => ∃ v1 v2 b', e = .returned (.tuple #[v1, v2, .bool true]) ∧ RG b' ∧ eP w' base v1 b' ∧ fw w' base v2 b' ∧ Below w.heap.size w w' := by
 obtain ⟨hl, vf, va, rfl, hf, ha⟩ := hO
 obtain ⟨vs, vp, vm, rfl, hs, hp, hm⟩ := hR
 obtain ⟨Af, cf, rfl⟩ := Kd.R_slice hf
 obtain ⟨Aa, ca, rfl⟩ := Kd.R_slice ha
 obtain ⟨As, cs, rfl⟩ := Kd.R_slice hs
 obtain ⟨Ap, cp, rfl⟩ := Kd.R_slice hp
 obtain ⟨M, hM⟩ : ∃ M, M = b.attrs.map vc := ⟨_, rfl⟩
 rw [← hM] at hm
 obtain ⟨Am, cm, rfl⟩ := Kd.R_slice hm
 have HL := ak hl
 have HM := ak hM
 have bU := ak hf
 have eT := ak ha
 have bl := ak hs
 have eR := ak hp
 have cb := ak hm
 have HG := ak hg
 have an := ak (Below.refl w.heap.size w)
 have HBASE := ak hbase
 have HLB := ak (dc (bk b.addr b.aff b.slots (.slice Af b.free.length cf) (.slice Aa b.attrs.length ca)) (ao _ _ _ _ _ HL.out))
 obtain ⟨lt, hlt⟩ : ∃ lt, lt = l.take 80 := ⟨_, rfl⟩
 have hut : ∀ x ∈ lt, 0 ≤ x ∧ x < 4294967296 := fun x hx => hu x (by rw [hlt] at hx; exact List.mem_of_mem_take hx)
 have hll : lt.length = min 80 l.length := by rw [hlt, List.length_take]
 have HCL := ak hcl
 have HLL := ak hll
 have HC := ak hC
 have HCT := ak (fun W (I : Below w.heap.size w W) => (show Kd.C (Kd.int .u32) W Al lt.length lt by
  rcases Nat.lt_or_ge 80 l.length with h | h
  ·have h_ := Kd.C_take (m := 80) (Kd.C_below hC I) (by omega)
   rw [← hlt] at h_
   exact h_
  ·have h_ := Kd.C_below hC I
   have e : lt = l := by rw [hlt, List.take_of_length_le h]
   rw [e]
   exact h_))
 have q0 : (a.f1.toList == []) = true := by rw [he]; rfl
 have q1 : a.f1.toList.isEmpty = true := by rw [he]; rfl
 have q2 : (a.f1.toList = []) = True := eq_true he
 clear he
 clear hl hM hf ha hs hp hm hbase hC hu hut hll hcl hlt hg
 go_enter Try.func47, Try.ntmps47
 go_upto_if 37 with (first
  | (refine aV rfl 57 (.tmp 0) rfl _ rfl ?_; intro gX W1 J aa I; have cw := ge an J; have aA := ak (an.out.trans (I.mono an.out.size)); have bJ := mv I bU; have ea := mv I eT; have bC := mv I bl; have ee := mv I eR; have b7 := mv I cb; have au := ak (aa); clear J aa I an bU eT bl eR cb)
  | (refine aV rfl 62 (.tmp 1) rfl _ rfl ?_; intro gY W2 J aa I; have jT := ge aA J; have gC := ne au J; have aK := mv I aA; have ch := mv I bJ; have er := mv I ea; have b4 := mv I bC; have ej := mv I ee; have dm := mv I b7; have aI := mv I au; have dk := ak (aa); clear J aa I aA bJ ea bC ee b7 au)
  | (refine aV rfl 79 (.tmp 2) rfl _ rfl ?_; intro gT W3 J aa I; have ld := ge aK J; have iL := ne aI J; have jf := ne dk J; have aT := mv I aK; have cW := mv I ch; have eG := mv I er; have cH := mv I b4; have eN := mv I ej; have dT := mv I dm; have aQ := mv I aI; have dj := mv I dk; have ey := ak (aa); clear J aa I aK ch er b4 ej dm aI dk)
  | (refine aH (some 6) rfl rfl 57 rfl bu b6 ?_; intro gZ W4 J aa I; have ct := ge aT J; have aU := ne aQ J; have gS := ne dj J; have ky := ne ey J; have bq := mv I aT; have cU := mv I cW; have eo := mv I eG; have dC := mv I cH; have fg := mv I eN; have dZ := mv I dT; have bg := mv I aQ; have di := mv I dj; have eF := mv I ey; have bB := ak (aa); clear J aa I aT cW eG cH eN dT aQ dj ey)
  | (refine aH (some 7) rfl rfl 62 rfl dW (fun _ => by kernel_rfl) ?_; intro gU W5 J aa I; have fR := ge bq J; have ig := ne bg J; have dO := ne di J; have jI := ne eF J; have iA := ne bB J; have bE := mv I bq; have cQ := mv I cU; have dJ := mv I eo; have dG := mv I dC; have eV := mv I fg; have dw := mv I dZ; have bz := mv I bg; have dY := mv I di; have bQ := mv I eF; have bY := mv I bB; have ff := ak (aa); have kt := bQ.out.cell 0 _ rfl; have iK := bQ.out.cell 1 _ rfl; have ks := bQ.out.cell 2 _ rfl; have kr := bQ.out.cell 3 _ rfl; have kp := bQ.out.cell 4 _ rfl; have ix := bQ.out.cell 5 _ rfl; clear J aa I bq cU eo dC fg dZ bg di eF bB))
 go_cut [9] from 38 to 39 (fun s9 wx => s9 = .slice Al lt.length cl ∧ W5 = wx)
 case first =>
  rcases Nat.lt_or_ge 80 l.length with mA | mA
  ·have mz : decide ((80 : Int) < (l.length : Int)) = true := by simp; omega
   have wI : (((0 : Int) ≤ 80 ∧ (80 : Int) ≤ (cl : Int)) = True) := eq_true ⟨by omega, by have := HCL.out; omega⟩
   have wH : (((80 : Int) ≤ (cl : Int)) = True) := eq_true (by have := HCL.out; omega)
   go_wp2_with fail
   go_meet
   exact ⟨by rw [HLL.out, Nat.min_eq_left (by omega)], rfl⟩
  ·have mz : decide ((80 : Int) < (l.length : Int)) = false := by simp; omega
   go_wp2_with fail
   go_meet
   exact ⟨by rw [HLL.out, Nat.min_eq_right (by omega)], rfl⟩
 case rest =>
 obtain ⟨ic, ib⟩ := hcut
 subst ic
 subst ib
 go_wp2_with fail
 have aq : Below W5.heap.size W5 W5.drew := bL (Below.refl _ _)
 have bZ := mv aq bE; have dD := mv aq cQ; have ef := mv aq dJ; have dN := mv aq dG; have eU := mv aq eV; have ez := mv aq dw; have bH := mv aq bz; have du := mv aq dY; have fJ := mv aq bQ; have cn := mv aq bY; have dI := mv aq ff
 clear aq bE cQ dJ dG eV dw bz dY bQ bY ff kt iK ks kr kp ix
 have hB := bZ
 have hF := dD
 have hG := ef
 have hS := dN
 have hP := eU
 have hM := ez
 have hX := bH
 have hY := du
 have hT := fJ
 have hZ := cn
 have hU := dI
 clear bZ dD ef dN eU ez bH du fJ cn dI
 refine dR (n := 5) (S := fun w' => aX w' gX (bk b.addr b.aff b.slots (.slice Af b.free.length cf) (.slice Aa b.attrs.length ca)) 57 ∧ aX w' gY (dH b.addr b.aff (.slice As b.slots.length cs) (.slice Ap b.free.length cp) (.slice Am M.length cm)) 62) (ds := []) #[false, false, false, false, false] (by kernel_rfl) rfl rfl ⟨hX.out, hY.out⟩ (fun hHeld => ?_); refine b5 mW.tab37 mW.bits37 (fun ag bM => ?_)
 refine tk 0 ag.out bM.out hHeld ?_ (hv := by exact fun _ bj => aY 57 (.tmp 3) rfl gX rfl _ _ _ bj.1 Try.underlying57 rfl HLB.out)
 refine tk 1 ag.out bM.out hHeld ?_ (hv := by exact fun _ bj => aY 62 (.tmp 4) rfl gY rfl _ _ _ bj.2 Try.underlying62 rfl (by kernel_rfl))
 refine ow 2 ag.out (fun K hK => ?_)
 refine bS (by rfl) rfl 57 (.tmp 6) (.tmp 235) rfl gZ (bk b.addr b.aff b.slots (.slice Af b.free.length cf) (.slice Aa b.attrs.length ca)) rfl rfl 57 _ hZ.out 68 (by kernel_rfl) (ao _ _ _ _ _ HL.out) rfl (cA _ _ _ _ _ rfl rfl) ?_
 intro V2 aa J; replace hB := gb hB ct J; replace hF := gr hF hZ J; replace hG := gr hG hZ J; replace hS := gr hS hZ J; replace hP := gr hP hZ J; replace hM := gr hM hZ J; replace hX := gn hX aU J; replace hY := gx hY hZ J; replace hT := gx hT hZ J; replace hU := gx hU hZ J; replace hZ := ak (aa); clear aa J
 refine hK.out _ _ ⟨hX.out, hY.out⟩ (fun hHeld => ?_)
 clear hK K
 refine ow 3 ag.out (fun K hK => ?_)
 refine bS (by rfl) rfl 62 (.tmp 7) (.tmp 236) rfl gU (dH b.addr b.aff (.slice As b.slots.length cs) (.slice Ap b.free.length cp) (.slice Am M.length cm)) rfl rfl 62 _ hU.out 5 (by kernel_rfl) rfl rfl (et _ _ rfl rfl rfl) ?_
 intro V3 aa J; replace hB := gb hB fR J; replace hF := gr hF hU J; replace hG := gr hG hU J; replace hS := gr hS hU J; replace hP := gr hP hU J; replace hM := gr hM hU J; replace hX := gx hX hU J; replace hY := gn hY dO J; replace hT := gx hT hU J; replace hZ := gx hZ hU J; replace hU := ak (aa); clear aa J
 refine hK.out _ _ ⟨hX.out, hY.out⟩ (fun hHeld => ?_)
 clear hK K
 refine pu 4 ag.out ?_
 refine dn ag.out ?_
 clear hHeld
 go_wp2_with fail
 refine bodyPost_ret (fD rfl _ _ _ gZ gU 57 62 _ _ _ _ rfl hZ.out rfl Try.underlying57 (by first | exact HLB.out | exact HLN _ _ _ _) rfl hU.out rfl Try.underlying62 (by kernel_rfl)) rfl ⟨_, _, b, rfl, ?_, ?_, ?_, hB.out⟩
 ·exact HG.out
 ·exact ⟨HL.out, _, _, rfl, hF.out, hG.out⟩
 ·exact ⟨_, _, _, rfl, hS.out, hP.out, by rw [← HM.out]; exact hM.out⟩
set_option maxHeartbeats 16000000 in
set_option maxRecDepth 100000 in
theorem Pj (b : Bk) (hg : RG b) (n : Int) (hn : n < 9223372036854775808) (a : lN) (fE : a.f0.size ≤ 9223372036854775807) (gh : a.f1.size ≤ 9223372036854775807) (l : List Int) (hu : ∀ x ∈ l, 0 ≤ x ∧ x < 4294967296) (hlm : l.length ≤ 9223372036854775807) (Al : Option Addr) (cl : Nat) (hcl : l.length ≤ cl) (aff : ByteArray) (hza : aff.size ≤ 9223372036854775807) (he : a.f1.toList ≠ []) (v v2 : Value) (w : World) (base : Nat) (hbase : base ≤ w.heap.size) (hO : eP w base v b) (hR : fw w base v2 b) (hC : Kd.C (Kd.int .u32) w Al l.length l) :
  Calls Try.prog 47 #[v, v2, .agg #[.int .i64 6, .int .i64 n, .string a.f0, .string a.f1, .slice Al l.length cl, .string aff]] w fun e w' => ∃ v1 v2 b', e = .returned (.tuple #[v1, v2, .bool true]) ∧ RG b' ∧ eP w' base v1 b' ∧ fw w' base v2 b' ∧ Below w.heap.size w w' := by
 obtain ⟨hl, vf, va, rfl, hf, ha⟩ := hO
 obtain ⟨vs, vp, vm, rfl, hs, hp, hm⟩ := hR
 obtain ⟨Af, cf, rfl⟩ := Kd.R_slice hf
 obtain ⟨Aa, ca, rfl⟩ := Kd.R_slice ha
 obtain ⟨As, cs, rfl⟩ := Kd.R_slice hs
 obtain ⟨Ap, cp, rfl⟩ := Kd.R_slice hp
 obtain ⟨M, hM⟩ : ∃ M, M = b.attrs.map vc := ⟨_, rfl⟩
 rw [← hM] at hm
 obtain ⟨Am, cm, rfl⟩ := Kd.R_slice hm
 have HL := ak hl
 have HM := ak hM
 have bU := ak hf
 have eT := ak ha
 have bl := ak hs
 have eR := ak hp
 have cb := ak hm
 have HG := ak hg
 have an := ak (Below.refl w.heap.size w)
 have HBASE := ak hbase
 have HLB := ak (dc (bk b.addr b.aff b.slots (.slice Af b.free.length cf) (.slice Aa b.attrs.length ca)) (ao _ _ _ _ _ HL.out))
 obtain ⟨lt, hlt⟩ : ∃ lt, lt = l.take 80 := ⟨_, rfl⟩
 have hut : ∀ x ∈ lt, 0 ≤ x ∧ x < 4294967296 := fun x hx => hu x (by rw [hlt] at hx; exact List.mem_of_mem_take hx)
 have hll : lt.length = min 80 l.length := by rw [hlt, List.length_take]
 have HCL := ak hcl
 have HLL := ak hll
 have HC := ak hC
 have HCT := ak (fun W (I : Below w.heap.size w W) => (show Kd.C (Kd.int .u32) W Al lt.length lt by
  rcases Nat.lt_or_ge 80 l.length with h | h
  ·have h_ := Kd.C_take (m := 80) (Kd.C_below hC I) (by omega)
   rw [← hlt] at h_
   exact h_
  ·have h_ := Kd.C_below hC I
   have e : lt = l := by rw [hlt, List.take_of_length_le h]
   rw [e]
   exact h_))
 have hp := jD hg.right
 have hpq : ((fun x => x.f1.toList == a.f1.toList) : At → Bool) = pG ⟨#[]⟩ a.f1 := by
  funext x
  unfold pG
  have h1 : (a.f1.toList == (⟨#[]⟩ : ByteArray).toList) = false := by simpa using he
  have h2 : ((⟨#[]⟩ : ByteArray).toList == (⟨#[]⟩ : ByteArray).toList) = true := beq_self_eq_true _
  rw [h1, h2]
  simp
 have hbl := fun v w h => Fv b hg.ok a.f1 hg.right v w h
 have hgv := fun v w h => zu b hg.ok hp hl ⟨#[]⟩ a.f1 v w h
 rw [hpq] at hbl
 have hur : ∀ x ∈ fb b (pG ⟨#[]⟩ a.f1) 64, 0 ≤ x ∧ x < 4294967296 := pd hg.ok hp.first _
 have hulen := km b (pG ⟨#[]⟩ a.f1) 64
 obtain ⟨ul, hul⟩ : ∃ ul, ul = fb b (pG ⟨#[]⟩ a.f1) 64 := ⟨_, rfl⟩
 rw [← hul] at hbl hgv hur hulen
 have hrg := hg.rel ul
 have hrl := fun Al cl v w h hC => rY b hg.ok hp hl ul hur (by omega) Al cl v w h hC
 rw [yY hg] at hrl
 obtain ⟨nb, hnb⟩ : ∃ nb, nb = mV b ul := ⟨_, rfl⟩
 obtain ⟨oo, hoo⟩ : ∃ oo, oo = (relL b ul).2 := ⟨_, rfl⟩
 rw [← hnb, ← hoo] at hbl hrl
 rw [← hnb] at hrg
 have hol : oo.length ≤ 1000 := by rw [hoo]; have h_ := (uW hg.ok hp hl ul ul.length (Nat.le_refl _)).ol; rw [List.take_length] at h_; omega
 have HRG := ak hrg
 have HNL := ak hrg.l64
 have HOL := ak hol
 have HLN := fun A8 c8 A9 c9 => dc (bk nb.addr nb.aff nb.slots (.slice A8 nb.free.length c8) (.slice A9 nb.attrs.length c9)) (ao _ _ _ _ _ HNL.out)
 have q0 : (a.f1.toList == []) = false := by simpa using he
 have q1 : a.f1.toList.isEmpty = false := by simpa using he
 have q2 : (a.f1.toList = []) = False := eq_false he
 have HBL := ak hbl
 have HRL := ak hrl
 have HGV := ak hgv
 clear hrg hbl hrl hgv hol hnb hoo hp hpq hur hul hulen he
 clear hl hM hf ha hs hp hm hbase hC hu hut hll hcl hlt hg
 go_enter Try.func47, Try.ntmps47
 go_upto_if 37 with (first
  | (refine aV rfl 57 (.tmp 0) rfl _ rfl ?_; intro gX W1 J aa I; have cw := ge an J; have aA := ak (an.out.trans (I.mono an.out.size)); have bJ := mv I bU; have ea := mv I eT; have bC := mv I bl; have ee := mv I eR; have b7 := mv I cb; have au := ak (aa); clear J aa I an bU eT bl eR cb)
  | (refine aV rfl 62 (.tmp 1) rfl _ rfl ?_; intro gY W2 J aa I; have jT := ge aA J; have gC := ne au J; have aK := mv I aA; have ch := mv I bJ; have er := mv I ea; have b4 := mv I bC; have ej := mv I ee; have dm := mv I b7; have aI := mv I au; have dk := ak (aa); clear J aa I aA bJ ea bC ee b7 au)
  | (refine aV rfl 79 (.tmp 2) rfl _ rfl ?_; intro gT W3 J aa I; have ld := ge aK J; have iL := ne aI J; have jf := ne dk J; have aT := mv I aK; have cW := mv I ch; have eG := mv I er; have cH := mv I b4; have eN := mv I ej; have dT := mv I dm; have aQ := mv I aI; have dj := mv I dk; have ey := ak (aa); clear J aa I aK ch er b4 ej dm aI dk)
  | (refine aH (some 6) rfl rfl 57 rfl bu b6 ?_; intro gZ W4 J aa I; have ct := ge aT J; have aU := ne aQ J; have gS := ne dj J; have ky := ne ey J; have bq := mv I aT; have cU := mv I cW; have eo := mv I eG; have dC := mv I cH; have fg := mv I eN; have dZ := mv I dT; have bg := mv I aQ; have di := mv I dj; have eF := mv I ey; have bB := ak (aa); clear J aa I aT cW eG cH eN dT aQ dj ey)
  | (refine aH (some 7) rfl rfl 62 rfl dW (fun _ => by kernel_rfl) ?_; intro gU W5 J aa I; have fR := ge bq J; have ig := ne bg J; have dO := ne di J; have jI := ne eF J; have iA := ne bB J; have bE := mv I bq; have cQ := mv I cU; have dJ := mv I eo; have dG := mv I dC; have eV := mv I fg; have dw := mv I dZ; have bz := mv I bg; have dY := mv I di; have bQ := mv I eF; have bY := mv I bB; have ff := ak (aa); have kt := bQ.out.cell 0 _ rfl; have iK := bQ.out.cell 1 _ rfl; have ks := bQ.out.cell 2 _ rfl; have kr := bQ.out.cell 3 _ rfl; have kp := bQ.out.cell 4 _ rfl; have ix := bQ.out.cell 5 _ rfl; clear J aa I bq cU eo dC fg dZ bg di eF bB))
 go_cut [9] from 38 to 39 (fun s9 wx => s9 = .slice Al lt.length cl ∧ W5 = wx)
 case first =>
  rcases Nat.lt_or_ge 80 l.length with mA | mA
  ·have mz : decide ((80 : Int) < (l.length : Int)) = true := by simp; omega
   have wI : (((0 : Int) ≤ 80 ∧ (80 : Int) ≤ (cl : Int)) = True) := eq_true ⟨by omega, by have := HCL.out; omega⟩
   have wH : (((80 : Int) ≤ (cl : Int)) = True) := eq_true (by have := HCL.out; omega)
   go_wp2_with fail
   go_meet
   exact ⟨by rw [HLL.out, Nat.min_eq_left (by omega)], rfl⟩
  ·have mz : decide ((80 : Int) < (l.length : Int)) = false := by simp; omega
   go_wp2_with fail
   go_meet
   exact ⟨by rw [HLL.out, Nat.min_eq_right (by omega)], rfl⟩
 case rest =>
 obtain ⟨ic, ib⟩ := hcut
 subst ic
 subst ib
 go_wp2_with (first
  | ((with_reducible refine aJ (N := 178) rfl ?_); refine aN rfl 57 (.tmp 3) rfl gX rfl _ _ _ bz.out Try.underlying57 rfl 68 (by kernel_rfl) (ao _ _ _ _ _ HL.out) ?_)
  | (go_at_call 54; refine (HBL.out _ _ ⟨_, _, _, _, rfl, ⟨HL.out, (rr cQ).1, (rr cQ).2, (rr dJ).1, (rr dJ).2⟩⟩).mono ?_; rintro e W6 ⟨v_, ml, rfl, bc, fM, I⟩; have HSZ := ak (lb HBASE bE); obtain ⟨iZ, p6, p7, rfl, dM, ew⟩ := bc; obtain ⟨A8, c8, rfl⟩ := Kd.R_slice dM; obtain ⟨A9, c9, rfl⟩ := Kd.R_slice ew; obtain ⟨Ao, co, rfl⟩ := Kd.R_slice fM; have bZ := mv I bE; have dD := mv I cQ; have ef := mv I dJ; have dN := mv I dG; have eU := mv I eV; have ez := mv I dw; have bH := mv I bz; have du := mv I dY; have fJ := mv I bQ; have cn := mv I bY; have dI := mv I ff; have nI := ak (Kd.R_lower dM HSZ.out); have nF := ak (Kd.R_lower ew HSZ.out); have od := ak (Kd.R_lower fM HSZ.out); clear HSZ iZ dM ew fM I bE cQ dJ dG eV dw bz dY bQ bY ff kt iK ks kr kp ix)
  | (refine aH (some 25) rfl rfl 57 rfl bu b6 ?_; intro gQ W7 J aa I; have dr := ge bZ J; have bI := ne bH J; have wh := ne du J; have wj := ne fJ J; have bs := ne cn J; have wi := ne dI J; have eH := mv I bZ; have fA := mv I dD; have ji := mv I ef; have gq := mv I dN; have l4 := mv I eU; have ju := mv I ez; have dP := mv I bH; have iY := mv I du; have nB := mv I fJ; have ep := mv I cn; have nA := mv I dI; have nH := mv I nI; have nE := mv I nF; have kX := mv I od; have en := ak (aa); clear J aa I bZ dD ef dN eU ez bH du fJ cn dI nI nF od)
  | (refine a7 rfl 57 (.tmp 25) (.tmp 183) rfl gQ (bk nb.addr nb.aff nb.slots (.slice A8 nb.free.length c8) (.slice A9 nb.attrs.length c9)) rfl rfl 57 _ en.out 68 (by kernel_rfl) (ao _ _ _ _ _ HNL.out) rfl (cA _ _ _ _ _ rfl rfl) ?_; intro W8 aa J; have gJ := gb eH dr J; have jw := gr fA en J; have jv := gr ji en J; have kI := gr gq en J; have lJ := gr l4 en J; have lK := gr ju en J; have gH := gn dP bI J; have kG := gx iY en J; have mi := gx nB en J; have gG := gn ep bs J; have nz := gx nA en J; have nG := gr nH en J; have nD := gr nE en J; have rf := gr kX en J; have pQ := ak (aa); clear aa J eH fA ji gq l4 ju dP iY nB ep nA nH nE kX en))
 have aq : Below W8.heap.size W8 W8.drew := bL (Below.refl _ _)
 have lp := mv aq gJ; have oT := mv aq jw; have oS := mv aq jv; have mj := mv aq kI; have oP := mv aq lJ; have oQ := mv aq lK; have ln := mv aq gH; have mh := mv aq kG; have oc := mv aq mi; have kW := mv aq gG; have oN := mv aq nz; have pX := mv aq nG; have pV := mv aq nD; have xL := mv aq rf; have oO := mv aq pQ
 clear aq gJ jw jv kI lJ lK gH kG mi gG nz nG nD rf pQ
 have hB := lp
 have hF := oT
 have hG := oS
 have hS := mj
 have hP := oP
 have hM := oQ
 have hX := ln
 have hY := mh
 have hT := oc
 have hZ := kW
 have hU := oN
 have hC := pX
 have hD := pV
 have hO := xL
 have hQ := oO
 clear lp oT oS mj oP oQ ln mh oc kW oN pX pV xL oO
 refine dR (n := 13) (S := fun w' => aX w' gY (dH b.addr b.aff (.slice As b.slots.length cs) (.slice Ap b.free.length cp) (.slice Am M.length cm)) 62 ∧ aX w' gT [.int .i64 6, .int .i64 n, .string a.f0, .string a.f1, .slice Al l.length cl, .string aff] 79) (ds := []) #[false, false, false, false, false, false, false, false, false, false, false, false, false] (by kernel_rfl) rfl rfl ⟨hY.out, hT.out⟩ (fun hHeld => ?_); refine b5 th.tab28 th.bits28 (fun ag bM => ?_)
 refine tk 0 ag.out bM.out hHeld ?_ (hv := by exact fun _ bj => aY 62 (.tmp 4) rfl gY rfl _ _ _ bj.1 Try.underlying62 rfl (by kernel_rfl))
 refine tk 1 ag.out bM.out hHeld ?_ (hv := by exact fun _ bj => aY 62 (.tmp 4) rfl gY rfl _ _ _ bj.1 Try.underlying62 rfl (by kernel_rfl))
 refine pu 2 ag.out ?_
 refine pu 3 ag.out ?_
 refine tk 4 ag.out bM.out hHeld ?_ (hv := by intro w' bj; have Gc := bj.2.cell 3 _ rfl; go_simp; with_reducible rfl)
 refine ru (σ := Nat × Option Addr × Nat × Value × Value) 2 #[true, true, true, true, true, true, true, true, true, true, true, false, false] (fun s => [(192, .slice s.2.1 ul.length s.2.2.1), (193, .tuple #[s.2.2.2.1, s.2.2.2.2]), (186, .tuple #[s.2.2.2.1, s.2.2.2.2]), (194, s.2.2.2.1), (195, s.2.2.2.2), (28, .pointer (some ⟨s.1, 0, none⟩))]) (fun s w' => Aside0 (Below w.heap.size w w') ∧ Aside0 (Kd.R (Kd.int .u8) 5 w' base (fun _ => True) (.slice Af b.free.length cf) b.free) ∧ Aside0 (Kd.R lf 85 w' base (fun _ => True) (.slice Aa b.attrs.length ca) b.attrs) ∧ Aside0 (Kd.R (Kd.int .i64) 3 w' base (fun _ => True) (.slice As b.slots.length cs) b.slots) ∧ Aside0 (Kd.R (Kd.int .i64) 3 w' base (fun _ => True) (.slice Ap b.free.length cp) b.free) ∧ Aside0 (Kd.R ia 76 w' base (fun _ => True) (.slice Am M.length cm) M) ∧ Aside0 (aX w' gX (bk b.addr b.aff b.slots (.slice Af b.free.length cf) (.slice Aa b.attrs.length ca)) 57) ∧ Aside0 (aX w' gY (dH b.addr b.aff (.slice As b.slots.length cs) (.slice Ap b.free.length cp) (.slice Am M.length cm)) 62) ∧ Aside0 (aX w' gT [.int .i64 6, .int .i64 n, .string a.f0, .string a.f1, .slice Al l.length cl, .string aff] 79) ∧ Aside0 (aX w' gZ bu 57) ∧ Aside0 (aX w' gU dW 62) ∧ Aside0 (Kd.R (Kd.int .u8) 5 w' base (fun _ => True) (.slice A8 nb.free.length c8) nb.free) ∧ Aside0 (Kd.R lf 85 w' base (fun _ => True) (.slice A9 nb.attrs.length c9) nb.attrs) ∧ Aside0 (Kd.R (Kd.int .u32) 46 w' base (fun _ => True) (.slice Ao oo.length co) oo) ∧ Aside0 (aX w' gQ (bk nb.addr nb.aff nb.slots (.slice A8 nb.free.length c8) (.slice A9 nb.attrs.length c9)) 57) ∧ Aside0 (aX w' s.1 dW 62) ∧ Aside0 (w.heap.size ≤ s.1) ∧ Aside0 (gY ≠ s.1) ∧ Aside0 (gU ≠ s.1) ∧ Aside0 (Kd.R (Kd.int .u32) 46 w' base (fun _ => True) (.slice s.2.1 ul.length s.2.2.1) ul) ∧ Aside0 (fw w' base s.2.2.2.1 nb) ∧ Aside0 (Kd.R (Kd.int .u32) 46 w' base (fun _ => True) s.2.2.2.2 oo)) ?_ ?_
 rotate_left
 ·intro fe
  refine tw 5 10 ag.out (fun K hK => ?_) (fun K hK => ?_)
  ·skip
   refine gs Try.func63 #[.agg (dH b.addr b.aff (.slice As b.slots.length cs) (.slice Ap b.free.length cp) (.slice Am M.length cm)).toArray, .string ⟨#[]⟩, .string a.f1] (HGV.out _ _ ⟨M, As, cs, Ap, cp, Am, cm, rfl, (jL.of HM.out hS.out hP.out hM.out)⟩) ?_
   rintro e V5 ⟨P3, rfl, sE, I⟩
   refine ⟨_, rfl, ?_⟩
   have hL := ak (Kd.R_lower sE (lb HBASE hB)); obtain ⟨Au, cu, rfl⟩ := Kd.R_slice hL.out; (try replace hV := mv I hV); replace hB := mv I hB; replace hF := mv I hF; replace hG := mv I hG; replace hS := mv I hS; replace hP := mv I hP; replace hM := mv I hM; replace hX := mv I hX; replace hY := mv I hY; replace hT := mv I hT; replace hZ := mv I hZ; replace hU := mv I hU; replace hC := mv I hC; replace hD := mv I hD; replace hO := mv I hO; replace hQ := mv I hQ; clear sE I
   refine kn hK ⟨hY.out, hT.out⟩ (fun hHeld => ?_)
   clear hK K
   refine tw 6 10 ag.out (fun K hK => ?_) (fun K hK => ?_)
   ·skip
    refine gs Try.func84 #[.agg (dH b.addr b.aff (.slice As b.slots.length cs) (.slice Ap b.free.length cp) (.slice Am M.length cm)).toArray, .slice Au ul.length cu] (HRL.out _ _ _ _ ⟨M, As, cs, Ap, cp, Am, cm, rfl, (jL.of HM.out hS.out hP.out hM.out)⟩ (Kd.R_reads' hL.out).2.2) ?_
    rintro e V6 ⟨v9, rR, rfl, fS, mr, I⟩
    refine ⟨_, rfl, ?_⟩
    have lD := ak (fw.lower' fS (lb HBASE hB)); have ei := ak (Kd.R_lower mr (lb HBASE hB)); (try replace hL := mv I hL); (try replace hV := mv I hV); replace hB := mv I hB; replace hF := mv I hF; replace hG := mv I hG; replace hS := mv I hS; replace hP := mv I hP; replace hM := mv I hM; replace hX := mv I hX; replace hY := mv I hY; replace hT := mv I hT; replace hZ := mv I hZ; replace hU := mv I hU; replace hC := mv I hC; replace hD := mv I hD; replace hO := mv I hO; replace hQ := mv I hQ; clear fS mr I
    refine kn hK ⟨hY.out, hT.out⟩ (fun hHeld => ?_)
    clear hK K
    refine pu 7 ag.out ?_
    refine pu 8 ag.out ?_
    refine pu 9 ag.out ?_
    refine on 10 ag.out (fun K hK => ?_)
    refine eJ (by rfl) 62 rfl dW (fun _ => by kernel_rfl) ?_
    intro gV zP J aa I
    have dQ := ge hB J
    have fp := ne hY J
    have eO := ne hU J
    (try replace hL := mv I hL)
    (try replace lD := mv I lD)
    (try replace ei := mv I ei)
    replace hB := mv I hB
    replace hF := mv I hF
    replace hG := mv I hG
    replace hS := mv I hS
    replace hP := mv I hP
    replace hM := mv I hM
    replace hX := mv I hX
    replace hY := mv I hY
    replace hT := mv I hT
    replace hZ := mv I hZ
    replace hU := mv I hU
    replace hC := mv I hC
    replace hD := mv I hD
    replace hO := mv I hO
    replace hQ := mv I hQ
    have hV := ak aa
    clear J aa I
    refine kn hK ⟨hY.out, hT.out⟩ (fun hHeld => ?_)
    clear hK K
    exact nc (fe ⟨gV, Au, cu, v9, rR⟩ _ ⟨hB, hF, hG, hS, hP, hM, hX, hY, hT, hZ, hU, hC, hD, hO, hQ, hV, dQ, fp, eO, hL, lD, ei⟩)
   ·skip
    refine eJ (by rfl) 62 rfl dW (fun _ => by kernel_rfl) ?_
    intro gV zP J aa I
    have dQ := ge hB J
    have fp := ne hY J
    have eO := ne hU J
    (try replace hL := mv I hL)
    (try replace lD := mv I lD)
    (try replace ei := mv I ei)
    replace hB := mv I hB
    replace hF := mv I hF
    replace hG := mv I hG
    replace hS := mv I hS
    replace hP := mv I hP
    replace hM := mv I hM
    replace hX := mv I hX
    replace hY := mv I hY
    replace hT := mv I hT
    replace hZ := mv I hZ
    replace hU := mv I hU
    replace hC := mv I hC
    replace hD := mv I hD
    replace hO := mv I hO
    replace hQ := mv I hQ
    have hV := ak aa
    clear J aa I
    refine kn hK ⟨hY.out, hT.out⟩ (fun hHeld => ?_)
    clear hK K
    refine on 6 ag.out (fun K hK => ?_)
    refine gs Try.func84 #[.agg (dH b.addr b.aff (.slice As b.slots.length cs) (.slice Ap b.free.length cp) (.slice Am M.length cm)).toArray, .slice Au ul.length cu] (HRL.out _ _ _ _ ⟨M, As, cs, Ap, cp, Am, cm, rfl, (jL.of HM.out hS.out hP.out hM.out)⟩ (Kd.R_reads' hL.out).2.2) ?_
    rintro e V6 ⟨v9, rR, rfl, fS, mr, I⟩
    refine ⟨_, rfl, ?_⟩
    have lD := ak (fw.lower' fS (lb HBASE hB)); have ei := ak (Kd.R_lower mr (lb HBASE hB)); (try replace hL := mv I hL); (try replace hV := mv I hV); replace hB := mv I hB; replace hF := mv I hF; replace hG := mv I hG; replace hS := mv I hS; replace hP := mv I hP; replace hM := mv I hM; replace hX := mv I hX; replace hY := mv I hY; replace hT := mv I hT; replace hZ := mv I hZ; replace hU := mv I hU; replace hC := mv I hC; replace hD := mv I hD; replace hO := mv I hO; replace hQ := mv I hQ; clear fS mr I
    refine kn hK ⟨hY.out, hT.out⟩ (fun hHeld => ?_)
    clear hK K
    refine pu 7 ag.out ?_
    refine pu 8 ag.out ?_
    refine pu 9 ag.out ?_
    exact nc (fe ⟨gV, Au, cu, v9, rR⟩ _ ⟨hB, hF, hG, hS, hP, hM, hX, hY, hT, hZ, hU, hC, hD, hO, hQ, hV, dQ, fp, eO, hL, lD, ei⟩)
  ·skip
   refine eJ (by rfl) 62 rfl dW (fun _ => by kernel_rfl) ?_
   intro gV zP J aa I
   have dQ := ge hB J
   have fp := ne hY J
   have eO := ne hU J
   (try replace hL := mv I hL)
   (try replace lD := mv I lD)
   (try replace ei := mv I ei)
   replace hB := mv I hB
   replace hF := mv I hF
   replace hG := mv I hG
   replace hS := mv I hS
   replace hP := mv I hP
   replace hM := mv I hM
   replace hX := mv I hX
   replace hY := mv I hY
   replace hT := mv I hT
   replace hZ := mv I hZ
   replace hU := mv I hU
   replace hC := mv I hC
   replace hD := mv I hD
   replace hO := mv I hO
   replace hQ := mv I hQ
   have hV := ak aa
   clear J aa I
   refine kn hK ⟨hY.out, hT.out⟩ (fun hHeld => ?_)
   clear hK K
   refine on 5 ag.out (fun K hK => ?_)
   refine gs Try.func63 #[.agg (dH b.addr b.aff (.slice As b.slots.length cs) (.slice Ap b.free.length cp) (.slice Am M.length cm)).toArray, .string ⟨#[]⟩, .string a.f1] (HGV.out _ _ ⟨M, As, cs, Ap, cp, Am, cm, rfl, (jL.of HM.out hS.out hP.out hM.out)⟩) ?_
   rintro e V5 ⟨P3, rfl, sE, I⟩
   refine ⟨_, rfl, ?_⟩
   have hL := ak (Kd.R_lower sE (lb HBASE hB)); obtain ⟨Au, cu, rfl⟩ := Kd.R_slice hL.out; (try replace hV := mv I hV); replace hB := mv I hB; replace hF := mv I hF; replace hG := mv I hG; replace hS := mv I hS; replace hP := mv I hP; replace hM := mv I hM; replace hX := mv I hX; replace hY := mv I hY; replace hT := mv I hT; replace hZ := mv I hZ; replace hU := mv I hU; replace hC := mv I hC; replace hD := mv I hD; replace hO := mv I hO; replace hQ := mv I hQ; clear sE I
   refine kn hK ⟨hY.out, hT.out⟩ (fun hHeld => ?_)
   clear hK K
   refine on 6 ag.out (fun K hK => ?_)
   refine gs Try.func84 #[.agg (dH b.addr b.aff (.slice As b.slots.length cs) (.slice Ap b.free.length cp) (.slice Am M.length cm)).toArray, .slice Au ul.length cu] (HRL.out _ _ _ _ ⟨M, As, cs, Ap, cp, Am, cm, rfl, (jL.of HM.out hS.out hP.out hM.out)⟩ (Kd.R_reads' hL.out).2.2) ?_
   rintro e V6 ⟨v9, rR, rfl, fS, mr, I⟩
   refine ⟨_, rfl, ?_⟩
   have lD := ak (fw.lower' fS (lb HBASE hB)); have ei := ak (Kd.R_lower mr (lb HBASE hB)); (try replace hL := mv I hL); (try replace hV := mv I hV); replace hB := mv I hB; replace hF := mv I hF; replace hG := mv I hG; replace hS := mv I hS; replace hP := mv I hP; replace hM := mv I hM; replace hX := mv I hX; replace hY := mv I hY; replace hT := mv I hT; replace hZ := mv I hZ; replace hU := mv I hU; replace hC := mv I hC; replace hD := mv I hD; replace hO := mv I hO; replace hQ := mv I hQ; clear fS mr I
   refine kn hK ⟨hY.out, hT.out⟩ (fun hHeld => ?_)
   clear hK K
   refine pu 7 ag.out ?_
   refine pu 8 ag.out ?_
   refine pu 9 ag.out ?_
   exact nc (fe ⟨gV, Au, cu, v9, rR⟩ _ ⟨hB, hF, hG, hS, hP, hM, hX, hY, hT, hZ, hU, hC, hD, hO, hQ, hV, dQ, fp, eO, hL, lD, ei⟩)
 intro s w' hFF; obtain ⟨gV, Au, cu, v9, rR⟩ := s; simp only at hFF; obtain ⟨hB, hF, hG, hS, hP, hM, hX, hY, hT, hZ, hU, hC, hD, hO, hQ, hV, dQ, fp, eO, hL, lD, ei⟩ := hFF; have fS := lD.out; obtain ⟨wZ, sZ, ta, rfl, ie, fP, fi⟩ := fS; obtain ⟨A1, c1, rfl⟩ := Kd.R_slice ie; obtain ⟨A2, c2, rfl⟩ := Kd.R_slice fP; obtain ⟨NM, hNM⟩ : ∃ NM, NM = nb.attrs.map vc := ⟨_, rfl⟩; rw [← hNM] at fi; have HNM := ak hNM; obtain ⟨A3, c3, rfl⟩ := Kd.R_slice fi; obtain ⟨Fg, EE, rfl⟩ := Kd.R_slice ei.out; have hI := ak ie; have hJ := ak fP; have hE := ak fi; have iw := ei; clear hL lD ei hNM ie fP fi
 refine nj ?_
 refine ow 11 ag.out (fun K hK => ?_)
 refine bS (by rfl) rfl 62 (.tmp 28) (.tmp 194) rfl gV (dH nb.addr nb.aff (.slice A1 nb.slots.length c1) (.slice A2 nb.free.length c2) (.slice A3 NM.length c3)) rfl rfl 62 _ hV.out 5 (by kernel_rfl) rfl rfl (et _ _ rfl rfl rfl) ?_
 intro p9 aa J; replace hB := gb hB dQ J; replace hF := gr hF hV J; replace hG := gr hG hV J; replace hS := gr hS hV J; replace hP := gr hP hV J; replace hM := gr hM hV J; replace hX := gx hX hV J; replace hY := gn hY fp J; replace hT := gx hT hV J; replace hZ := gx hZ hV J; replace hU := gn hU eO J; replace hC := gr hC hV J; replace hD := gr hD hV J; replace hO := gr hO hV J; replace hQ := gx hQ hV J; replace hI := gr hI hV J; replace hJ := gr hJ hV J; replace hE := gr hE hV J; replace iw := gr iw hV J; replace hV := ak (aa); clear aa J
 refine hK.out _ _ ⟨hY.out, hT.out⟩ (fun hHeld => ?_)
 clear hK K
 refine pu 12 ag.out ?_
 refine dn ag.out ?_
 clear hHeld
 go_wp2_with fail
 have aq : Below p9.heap.size p9 p9.drew := bL (Below.refl _ _)
 have Bt := mv aq hB; have AY := mv aq hF; have AQ := mv aq hG; have Ab := mv aq hS; have An := mv aq hP; have Ay := mv aq hM; have zZ := mv aq hX; have zV := mv aq hY; have z8 := mv aq hT; have zS := mv aq hZ; have z4 := mv aq hU; have Bo := mv aq hC; have Bj := mv aq hD; have Ax := mv aq hO; have Ag := mv aq hQ; have z3 := mv aq hV; have AJ := mv aq hI; have AE := mv aq hJ; have Be := mv aq hE; have xM := mv aq iw
 clear aq hB hF hG hS hP hM hX hY hT hZ hU hC hD hO hQ hV hI hJ hE iw
 have hB := Bt
 have hF := AY
 have hG := AQ
 have hS := Ab
 have hP := An
 have hM := Ay
 have hX := zZ
 have hY := zV
 have hT := z8
 have hZ := zS
 have hU := z4
 have hC := Bo
 have hD := Bj
 have hO := Ax
 have hQ := Ag
 have hV := z3
 have hI := AJ
 have hJ := AE
 have hE := Be
 have iw := xM
 clear Bt AY AQ Ab An Ay zZ zV z8 zS z4 Bo Bj Ax Ag z3 AJ AE Be xM
 refine dR (n := 12) (S := fun w' => aX w' gQ (bk nb.addr nb.aff nb.slots (.slice A8 nb.free.length c8) (.slice A9 nb.attrs.length c9)) 57 ∧ aX w' gV (dH nb.addr nb.aff (.slice A1 nb.slots.length c1) (.slice A2 nb.free.length c2) (.slice A3 NM.length c3)) 62) (ds := []) #[false, false, false, false, false, false, false, false, false, false, false, false] (by kernel_rfl) rfl rfl ⟨hQ.out, hV.out⟩ (fun hHeld => ?_); refine b5 tg.tab29 tg.bits29 (fun ag bM => ?_)
 refine tk 0 ag.out bM.out hHeld ?_ (hv := by exact fun _ bj => aY 57 (.tmp 25) rfl gQ rfl _ _ _ bj.1 Try.underlying57 rfl (HLN _ _ _ _))
 refine tk 1 ag.out bM.out hHeld ?_ (hv := by exact fun _ bj => aY 62 (.tmp 28) rfl gV rfl _ _ _ bj.2 Try.underlying62 rfl (by kernel_rfl))
 refine pu 2 ag.out ?_
 refine pu 3 ag.out ?_
 refine pu 4 ag.out ?_
 refine pu 5 ag.out ?_
 refine pu 6 ag.out ?_
 refine on 7 ag.out (fun K hK => ?_)
 refine gs Try.func61 #[(.slice Ao oo.length co), (.slice Fg oo.length EE)] (rB oo HOL.out _ _ _ _ _ (Kd.R_reads' hO.out).2.2 (Kd.R_reads' hO.out).2.1 (Kd.R_reads' iw.out).2.2 (Kd.R_reads' iw.out).2.1) ?_
 rintro e V7 ⟨rfl, I⟩
 refine ⟨_, rfl, ?_⟩
 replace hB := mv I hB; replace hF := mv I hF; replace hG := mv I hG; replace hS := mv I hS; replace hP := mv I hP; replace hM := mv I hM; replace hX := mv I hX; replace hY := mv I hY; replace hT := mv I hT; replace hZ := mv I hZ; replace hU := mv I hU; replace hC := mv I hC; replace hD := mv I hD; replace hO := mv I hO; replace hQ := mv I hQ; replace hV := mv I hV; replace hI := mv I hI; replace hJ := mv I hJ; replace hE := mv I hE; replace iw := mv I iw
 refine kn hK ⟨hQ.out, hV.out⟩ (fun hHeld => ?_)
 clear hK K
 refine pu 8 ag.out ?_
 refine ow 9 ag.out (fun K hK => ?_)
 refine bS (by rfl) rfl 57 (.tmp 6) (.tmp 196) rfl gZ (bk nb.addr nb.aff nb.slots (.slice A8 nb.free.length c8) (.slice A9 nb.attrs.length c9)) rfl rfl 57 _ hZ.out 68 (by kernel_rfl) (ao _ _ _ _ _ HNL.out) rfl (cA _ _ _ _ _ rfl rfl) ?_
 intro V9 aa J; replace hB := gb hB ct J; replace hF := gr hF hZ J; replace hG := gr hG hZ J; replace hS := gr hS hZ J; replace hP := gr hP hZ J; replace hM := gr hM hZ J; replace hX := gn hX aU J; replace hY := gx hY hZ J; replace hT := gx hT hZ J; replace hU := gx hU hZ J; replace hC := gr hC hZ J; replace hD := gr hD hZ J; replace hO := gr hO hZ J; replace hQ := gm hQ bs J; replace hV := gx hV hZ J; replace hI := gr hI hZ J; replace hJ := gr hJ hZ J; replace hE := gr hE hZ J; replace iw := gr iw hZ J; replace hZ := ak (aa); clear aa J
 refine hK.out _ _ ⟨hQ.out, hV.out⟩ (fun hHeld => ?_)
 clear hK K
 refine ow 10 ag.out (fun K hK => ?_)
 refine bS (by rfl) rfl 62 (.tmp 7) (.tmp 197) rfl gU (dH nb.addr nb.aff (.slice A1 nb.slots.length c1) (.slice A2 nb.free.length c2) (.slice A3 NM.length c3)) rfl rfl 62 _ hU.out 5 (by kernel_rfl) rfl rfl (et _ _ rfl rfl rfl) ?_
 intro zP aa J; replace hB := gb hB fR J; replace hF := gr hF hU J; replace hG := gr hG hU J; replace hS := gr hS hU J; replace hP := gr hP hU J; replace hM := gr hM hU J; replace hX := gx hX hU J; replace hY := gn hY dO J; replace hT := gx hT hU J; replace hZ := gx hZ hU J; replace hC := gr hC hU J; replace hD := gr hD hU J; replace hO := gr hO hU J; replace hQ := gx hQ hU J; replace hV := gm hV eO J; replace hI := gr hI hU J; replace hJ := gr hJ hU J; replace hE := gr hE hU J; replace iw := gr iw hU J; replace hU := ak (aa); clear aa J
 refine hK.out _ _ ⟨hQ.out, hV.out⟩ (fun hHeld => ?_)
 clear hK K
 refine pu 11 ag.out ?_
 refine dn ag.out ?_
 clear hHeld
 go_wp2_with fail
 refine bodyPost_ret (fD rfl _ _ _ gZ gU 57 62 _ _ _ _ rfl hZ.out rfl Try.underlying57 (by first | exact HLB.out | exact HLN _ _ _ _) rfl hU.out rfl Try.underlying62 (by kernel_rfl)) rfl ⟨_, _, nb, rfl, ?_, ?_, ?_, hB.out⟩
 ·exact HRG.out
 ·exact ⟨HNL.out, _, _, rfl, hC.out, hD.out⟩
 ·exact ⟨_, _, _, rfl, hI.out, hJ.out, by rw [← HNM.out]; exact hE.out⟩
end Go.Proofs.Ytemhalnhbgkbcaa.V
end

section
namespace Go.Proofs.Ytemhalnhbgkbcaa.V
theorem Q7 (b : Bk) (hg : RG b) (kd : Int) (n : Int) (hn : n < 9223372036854775808) (a : lN) (fE : a.f0.size ≤ 9223372036854775807) (gh : a.f1.size ≤ 9223372036854775807) (l : List Int) (hu : ∀ x ∈ l, 0 ≤ x ∧ x < 4294967296) (hlm : l.length ≤ 9223372036854775807) (Al : Option Addr) (cl : Nat) (hcl : l.length ≤ cl) (aff : ByteArray) (hza : aff.size ≤ 9223372036854775807) (v v2 : Value) (w : World) (base : Nat) (hbase : base ≤ w.heap.size) (hO : eP w base v b) (hR : fw w base v2 b) (hC : Kd.C (Kd.int .u32) w Al l.length l) :
  Calls Try.prog 47 #[v, v2, .agg #[.int .i64 kd, .int .i64 n, .string a.f0, .string a.f1, .slice Al l.length cl, .string aff]] w fun e w' => ∃ v1 v2 b', e = .returned (.tuple #[v1, v2, .bool true]) ∧ RG b' ∧ eP w' base v1 b' ∧ fw w' base v2 b' ∧ Below w.heap.size w w' := by
 by_cases k0 : kd = 0 ∨ kd = 1
 ·cases hma : fj (cv a) with
  | false => exact Pn b hg kd k0 n hn a fE gh l hu hlm Al cl hcl aff hza hma v v2 w base hbase hO hR hC
  | true =>
   rcases Int.lt_or_le n 0 with n5 | n5
   ·exact Pm b hg kd k0 n hn a fE gh l hu hlm Al cl hcl aff hza hma n5 v v2 w base hbase hO hR hC
   ·exact Q6 b hg kd k0 n hn a fE gh l hu hlm Al cl hcl aff hza hma n5 v v2 w base hbase hO hR hC
 by_cases k2 : kd = 2 ∨ kd = 3
 ·rcases Nat.eq_zero_or_pos l.length with he | he
  ·exact Q5 b hg kd k2 n hn a fE gh l hu hlm Al cl hcl aff hza (List.length_eq_zero_iff.1 he) v v2 w base hbase hO hR hC
  ·exact Ss b hg kd k2 n hn a fE gh l hu hlm Al cl hcl aff hza he v v2 w base hbase hO hR hC
 by_cases k4 : kd = 4
 ·subst k4
  exact Q0 b hg n hn a fE gh l hu hlm Al cl hcl aff hza v v2 w base hbase hO hR hC
 by_cases k5 : kd = 5
 ·subst k5
  by_cases he : a.f0.toList = []
  ·exact KL b hg n hn a fE gh l hu hlm Al cl hcl aff hza he v v2 w base hbase hO hR hC
  ·exact Pk b hg n hn a fE gh l hu hlm Al cl hcl aff hza he v v2 w base hbase hO hR hC
 by_cases k6 : kd = 6
 ·subst k6
  by_cases he : a.f1.toList = []
  ·exact KK b hg n hn a fE gh l hu hlm Al cl hcl aff hza he v v2 w base hbase hO hR hC
  ·exact Pj b hg n hn a fE gh l hu hlm Al cl hcl aff hza he v v2 w base hbase hO hR hC
 by_cases k7 : kd = 7
 ·subst k7
  cases how : gg aff with
  | true => exact Q4 b hg n hn a fE gh l hu hlm Al cl hcl aff hza how v v2 w base hbase hO hR hC
  | false => exact Ph b hg n hn a fE gh l hu hlm Al cl hcl aff hza how v v2 w base hbase hO hR hC
 exact KJ b hg kd n hn a fE gh l hu hlm Al cl hcl aff hza ⟨by omega, by omega, by omega, by omega, k4, k5, k6, k7⟩ v v2 w base hbase hO hR hC
end Go.Proofs.Ytemhalnhbgkbcaa.V
end

section
namespace Go.Proofs.Ytemhalnhbgkbcaa.V
open Go.ChangeShapes Go.WideShapes
set_option maxRecDepth 100000
theorem Iv {z : Int} (h : (Lit.int .u32 z).wf = true) : 0 ≤ z ∧ z < 4294967296 := by
 have : 0 ≤ z ∧ z ≤ 4294967295 := by simpa [Lit.wf, IntKind.min, IntKind.max, IntKind.signed, IntKind.bits] using h
 omega
theorem F2 {α : Type} (P : Nat → α → Prop) : ∀ n, (∀ i, i < n → ∃ a, P i a) → ∃ xs : List α, xs.length = n ∧ ∀ i a, xs[i]? = some a → P i a
 | 0, _ => ⟨[], rfl, by simp⟩
 | n + 1, h => by
  obtain ⟨xs, h1, h2⟩ := F2 P n (fun i hi => h i (by omega))
  obtain ⟨a, ha⟩ := h n (by omega)
  refine ⟨xs ++ [a], by simp [h1], fun i b hb => ?_⟩
  rcases Nat.lt_trichotomy i n with hi | hi | hi
  ·rw [List.getElem?_append_left (by omega)] at hb
   exact h2 i b hb
  ·subst hi
   rw [← h1, List.getElem?_concat_length] at hb
   obtain rfl := Option.some.inj hb
   exact ha
  ·rw [List.getElem?_eq_none (by simp; omega)] at hb
   cases hb
section
variable {H : Type} {enc : TypeId × Value → H} {w : World} {base b0 : Nat} {held : Bool}
end
end Go.Proofs.Ytemhalnhbgkbcaa.V
end

section
namespace Go.Proofs.Ytemhalnhbgkbcaa.V
open Go.ChangeShapes Go.WideShapes
set_option maxRecDepth 100000
structure St where
 kd : Int
 n : Int
 a : S76
 l : List Int
 A : Option Addr
 c : Nat
 aff : ByteArray
def St.cells (s : St) : List Value := [.int .i64 s.kd, .int .i64 s.n, .string s.a.f0, .string s.a.f1, .slice s.A s.l.length s.c, .string s.aff]
structure St.Ok (w : World) (s : St) : Prop where
 n : s.n < 9223372036854775808
 z0 : s.a.f0.size ≤ 9223372036854775807
 z1 : s.a.f1.size ≤ 9223372036854775807
 u : ∀ x ∈ s.l, 0 ≤ x ∧ x < 4294967296
 lm : s.l.length ≤ 9223372036854775807
 lc : s.l.length ≤ s.c
 r : Kd.C (Kd.int .u32) w s.A s.l.length s.l
 za : s.aff.size ≤ 9223372036854775807
def K8 : St := ⟨0, 0, ⟨⟨#[]⟩, ⟨#[]⟩⟩, [], none, 0, ⟨#[]⟩⟩
structure StepsIs (w : World) (v : Value) (l : List St) : Prop where
 lm : l.length ≤ 9223372036854775807
 ok : ∀ s ∈ l, s.Ok w
 v : ∃ A c, v = .slice A l.length c ∧ l.length ≤ c ∧ ∀ i, i < l.length → ∃ ad, A = some ad ∧ ∀ j u, (l.getD i K8).cells[j]? = some u → w.cell? (ad.add (i * 6 + j)) = some u
section
variable {H : Type} {enc : TypeId × Value → H} {w : World} {base b0 : Nat} {held : Bool}
theorem IT {cs : List Value} {fuel : Nat} {x : DataW H × List MemPlace} (h : DataW.trod enc Try.prog w base (fun _ => true) held fuel 79 cs = some x) : ∃ s : St, s.Ok w ∧ cs = s.cells := by
 obtain ⟨xs, k, hk, hxy, hl, hxl, hfd⟩ := DataW.trod_struct Try.underlying79 h
 have hsz : cs.length = 6 := hl.trans (by kernel_rfl)
 have g0 := hfd 0 _ rfl
 have g1 := hfd 1 _ rfl
 have g2 := hfd 2 _ rfl
 have g3 := hfd 3 _ rfl
 have g4 := hfd 4 _ rfl
 have Je : xs.length = 5 := hxl
 have y0 : ∃ y, xs[0]? = some y := ⟨_, List.getElem?_eq_getElem (by omega)⟩
 have y1 : ∃ y, xs[1]? = some y := ⟨_, List.getElem?_eq_getElem (by omega)⟩
 have y2 : ∃ y, xs[2]? = some y := ⟨_, List.getElem?_eq_getElem (by omega)⟩
 have y3 : ∃ y, xs[3]? = some y := ⟨_, List.getElem?_eq_getElem (by omega)⟩
 have y4 : ∃ y, xs[4]? = some y := ⟨_, List.getElem?_eq_getElem (by omega)⟩
 obtain ⟨q0, y0⟩ := y0; obtain ⟨q1, y1⟩ := y1; obtain ⟨q2, y2⟩ := y2; obtain ⟨q3, y3⟩ := y3; obtain ⟨q4, y4⟩ := y4
 rw [y0] at g0; rw [y1] at g1; rw [y2] at g2; rw [y3] at g3; rw [y4] at g4
 have c3 : Try.prog.cellsOf 3 = 1 := by kernel_rfl
 have c9 : Try.prog.cellsOf 9 = 1 := by kernel_rfl
 have cL : Try.prog.cellsOf 77 = 1 := by kernel_rfl
 have cu : Try.prog.cellsOf 46 = 1 := by kernel_rfl
 have Z0 : Try.prog.cellsOf 76 = 2 := by kernel_rfl
 obtain ⟨z0, e0, _, w0⟩ := DataW.trod_int Try.underlying3 g0
 obtain ⟨z1, e1, _, w1⟩ := DataW.trod_int Try.underlying3 g1
 obtain ⟨p0, p1, n, _, _, h0, h1⟩ := trod_struct2 Try.underlying76 g2
 obtain ⟨s0, u0, _, v0⟩ := DataW.trod_string Try.underlying9 h0
 obtain ⟨s1, u1, _, v1⟩ := DataW.trod_string Try.underlying9 h1
 obtain ⟨s2, u2, _, v2⟩ := DataW.trod_string Try.underlying9 g4
 match cs, hsz with
 | [a0, a1, a2, a3, a4, a5], _ =>
  have TS : ([a0, a1, a2, a3, a4, a5].drop 0).take (Try.prog.cellsOf 3) = [Value.int .i64 z0] := e0
  have TR : ([a0, a1, a2, a3, a4, a5].drop 1).take (Try.prog.cellsOf 3) = [Value.int .i64 z1] := e1
  have TD : ((([a0, a1, a2, a3, a4, a5].drop 2).take (Try.prog.cellsOf 76)).drop 0).take (Try.prog.cellsOf 9) = [Value.string s0] := u0
  have TC : ((([a0, a1, a2, a3, a4, a5].drop 2).take (Try.prog.cellsOf 76)).drop 1).take (Try.prog.cellsOf 9) = [Value.string s1] := u1
  have TA : ([a0, a1, a2, a3, a4, a5].drop 5).take (Try.prog.cellsOf 9) = [Value.string s2] := u2
  rw [c3] at TS TR
  rw [Z0, c9] at TD TC
  rw [c9] at TA
  obtain rfl : a0 = Value.int .i64 z0 := by simpa using TS
  obtain rfl : a1 = Value.int .i64 z1 := by simpa using TR
  obtain rfl : a2 = Value.string s0 := by simpa using TD
  obtain rfl : a3 = Value.string s1 := by simpa using TC
  obtain rfl : a5 = Value.string s2 := by simpa using TA
  obtain ⟨A, c, fr, e3, hfc, hcm, hfC, TN⟩ : ∃ (A : Option Addr) (c : Nat) (fr : List Int), a4 = Value.slice A fr.length c ∧ fr.length ≤ c ∧ c ≤ maxLen ∧ Kd.C (Kd.int .u32) w A fr.length fr ∧ ∀ x ∈ fr, 0 ≤ x ∧ x < 4294967296 := by
   rcases open_ints Try.underlying77 Try.underlying46 cu g3 with ⟨hcs, _⟩ | ⟨x, l, c, ys, hcs, _, hl, hm, hy, _, hcell, hwy⟩
   ·have hcs' : ([Value.int .i64 z0, Value.int .i64 z1, Value.string s0, Value.string s1, a4, Value.string s2].drop 4).take (Try.prog.cellsOf 77) = [.slice none 0 0] := hcs
    rw [cL] at hcs'
    exact ⟨none, 0, [], by simpa using hcs', Nat.le_refl _, by unfold maxLen; omega, Kd.C_nil _ _, by intro x hx; cases hx⟩
   ·have hcs' : ([Value.int .i64 z0, Value.int .i64 z1, Value.string s0, Value.string s1, a4, Value.string s2].drop 4).take (Try.prog.cellsOf 77) = [.slice (some x) l c] := hcs
    rw [cL] at hcs'
    rw [if_pos rfl] at hy
    have hlen : (ys.take l).length = l := by rw [List.length_take]; omega
    refine ⟨some x, c, ys.take l, by rw [hlen]; simpa using hcs', by omega, hm, ?_, fun n hn => Iv (hwy n (List.mem_of_mem_take hn))⟩
    refine Kd.C_of_reads (enc := Value.int .u32) (d := 0) (h1 := fun _ => rfl) ⟨rfl, by unfold maxLen at hm; omega, fun _ => ⟨x, rfl, fun j hj => ?_⟩⟩
    rw [hlen] at hj
    rw [hcell j (by omega)]
    congr 2
    simp only [List.getD_eq_getElem?_getD, List.getElem?_take, hj, if_true]
  subst e3
  have YD : z1 < 9223372036854775808 := by
   have : -9223372036854775808 ≤ z1 ∧ z1 ≤ 9223372036854775807 := by simpa [Lit.wf, IntKind.min, IntKind.max, IntKind.signed, IntKind.bits] using w1
   omega
  refine ⟨⟨z0, z1, ⟨s0, s1⟩, fr, A, c, s2⟩, ⟨YD, by unfold maxLen at v0; exact v0, by unfold maxLen at v1; exact v1, TN, by unfold maxLen at hcm; show fr.length ≤ _; omega, hfc, hfC, by unfold maxLen at v2; exact v2⟩, rfl⟩
theorem open_steps {v : Value} {d : DataW H} {ps : List MemPlace} (hval : Value.okWide Try.prog w .any b0 70 v) (hd : DataW.Trod enc Try.prog w base (fun _ => true) held 70 v d ps) : ∃ l : List St, StepsIs w v l := by
 obtain ⟨A, l, c, rfl⟩ := okWide_slice Try.underlying70 hval
 obtain ⟨fuel, hf⟩ := hd
 have ZZ : Try.prog.cellsOf 79 = 6 := by kernel_rfl
 rcases Go.Deep.open_slice Try.underlying70 hf with ⟨hcs, _⟩ | ⟨x, len, cap, m, n, D, Pl, hcs, _, hl, hm, hmm, _, hel⟩
 ·simp [Value.cells] at hcs
  obtain ⟨rfl, rfl, rfl⟩ := hcs
  exact ⟨[], by simp, (by intro s hs; cases hs), none, 0, rfl, Nat.le_refl _, fun i hi => by simp at hi⟩
 ·simp [Value.cells] at hcs
  obtain ⟨rfl, rfl, rfl⟩ := hcs
  rw [if_pos rfl] at hmm
  obtain ⟨ys, zF, xq⟩ := F2 (fun i (s : St) => s.Ok w ∧ ∀ j u, s.cells[j]? = some u → w.cell? (x.add (i * 6 + j)) = some u) l (fun i hi => by
   obtain ⟨cs, h1, h2⟩ := hel i (by omega)
   obtain ⟨s, hs, rfl⟩ := IT h2
   obtain ⟨_, hlen, hc⟩ := World.cells?_some h1
   rw [ZZ] at hc
   refine ⟨s, hs, fun j u hu => ?_⟩
   have hj : j < 6 := by
    have := (List.getElem?_eq_some_iff.1 hu).1
    exact this
   rw [← hu, ← hc j hj, Go.Deep.add_add])
  refine ⟨ys, by rw [zF]; unfold maxLen at hm; omega, fun s hs => ?_, some x, c, by rw [zF], by omega, fun i hi => ⟨x, rfl, ?_⟩⟩
  ·obtain ⟨j, hj, rfl⟩ := List.getElem_of_mem hs
   exact (xq j _ (List.getElem?_eq_getElem hj)).1
  ·have h2 : ys.getD i K8 = ys[i] := by simp [List.getD, hi]
   rw [h2]
   exact (xq i _ (List.getElem?_eq_getElem hi)).2
end
end Go.Proofs.Ytemhalnhbgkbcaa.V
end

section
namespace Go.Proofs.Ytemhalnhbgkbcaa.V
attribute [local go_sem high] Lu
set_option maxHeartbeats 16000000 in
set_option maxRecDepth 100000 in
theorem IC (b : Bk) (hs : b.slots.length ≤ 1000) (hf : b.free.length ≤ 1000) (ha : b.attrs.length ≤ 1000) (v v2 : Value) (w : World) (h : jL w v b) (h2 : jL w v2 b) :
  Calls Try.prog 46 #[v, v2] w fun e w' => e = .returned (.bool true) ∧ Below w.heap.size w w' := by
 obtain ⟨M, A0, c0, A1, c1, A2, c2, rfl, r⟩ := h
 obtain ⟨M2, A3, c3, A4, c4, A5, c5, rfl, r2⟩ := h2
 obtain rfl : M2 = M := r2.m.trans r.m.symm
 have hM : M2.length ≤ 1000 := by rw [r.m, List.length_map]; exact ha
 have R1 := ak r
 have R2 := ak r2
 have an := ak (Below.refl w.heap.size w)
 clear r r2 ha
 go_enter Try.func46, Try.ntmps46
 go_wp2_with (first
  | (refine aV rfl 62 (.tmp 0) rfl _ rfl ?_; intro gX W1 hg hx hb; have HX := ak hx; have mG := ak (R1.out.below hb); have xK := ak (R2.out.below hb); have HB := ak hb; clear hg hx hb R1 R2 an)
  | (refine aV rfl 62 (.tmp 1) rfl _ rfl ?_; intro gY W2 hg hx hb; have gl := ak (HX.out.below hb); have ny := ak hx; have R1 := ak (mG.out.below hb); have R2 := ak (xK.out.below hb); have cG := ak (HB.out.trans (hb.mono HB.out.size)); clear hg hx hb mG xK HB HX; have x0_ := gl.out.cell 0 _ rfl; have x1_ := gl.out.cell 1 _ rfl; have x2_ := gl.out.cell 2 _ rfl; have x3_ := gl.out.cell 3 _ rfl; have x4_ := gl.out.cell 4 _ rfl; have y0_ := ny.out.cell 0 _ rfl; have y1_ := ny.out.cell 1 _ rfl; have y2_ := ny.out.cell 2 _ rfl; have y3_ := ny.out.cell 3 _ rfl; have y4_ := ny.out.cell 4 _ rfl))
 go_loopw [5, 50] (fun _ i W => ∃ k nd : Nat, k ≤ b.slots.length ∧ W = W2.drewN nd ∧ i = .int .i64 k) (fun _ i _ => b.slots.length - (intOf i).toNat)
 case atStart => exact ⟨0, 0, by omega, rfl, rfl⟩
 case round =>
  obtain ⟨k, nd, hk, rfl, rfl⟩ := hrel
  by_cases hq : k < b.slots.length
  ·have hb : decide ((k : Int) < (b.slots.length : Int)) = true := by simp; omega
   have p1 : ((k : Int) < (b.slots.length : Int)) = True := eq_true (by omega)
   obtain ⟨ad, eA, hx⟩ := Kd.at_int R1.out.sr k (by omega) (by omega)
   obtain ⟨ae, eB, hy⟩ := Kd.at_int R2.out.sr k (by omega) (by omega)
   cases eA
   cases eB
   rw [Int.toNat_natCast] at hx hy
   go_wp2
   go_quiet (fail)
   go_wp2
   go_roundw
   case rel => exact ⟨k + 1, _, by omega, rfl, by go_num⟩
   case measure => simp [intOf]; omega
  ·obtain rfl : k = b.slots.length := by omega
   have hb : decide ((b.slots.length : Int) < (b.slots.length : Int)) = false := by simp
   go_wp2
   go_loopw [6, 68] (fun _ i W => ∃ k nd : Nat, k ≤ b.free.length ∧ W = W2.drewN nd ∧ i = .int .i64 k) (fun _ i _ => b.free.length - (intOf i).toNat)
   case atStart => exact ⟨0, nd, by omega, rfl, rfl⟩
   case round =>
    obtain ⟨k, nd, hk, rfl, rfl⟩ := hrel
    by_cases hq : k < b.free.length
    ·have hb : decide ((k : Int) < (b.free.length : Int)) = true := by simp; omega
     have p1 : ((k : Int) < (b.free.length : Int)) = True := eq_true (by omega)
     obtain ⟨ad, eA, hx⟩ := Kd.at_int R1.out.fr k (by omega) (by omega)
     obtain ⟨ae, eB, hy⟩ := Kd.at_int R2.out.fr k (by omega) (by omega)
     cases eA
     cases eB
     rw [Int.toNat_natCast] at hx hy
     go_wp2
     go_quiet (fail)
     go_wp2
     go_roundw
     case rel => exact ⟨k + 1, _, by omega, rfl, by go_num⟩
     case measure => simp [intOf]; omega
    ·obtain rfl : k = b.free.length := by omega
     have hb : decide ((b.free.length : Int) < (b.free.length : Int)) = false := by simp
     go_wp2
     go_loopw [7, 86] (fun _ i W => ∃ k nd : Nat, k ≤ M2.length ∧ W = W2.drewN nd ∧ i = .int .i64 k) (fun _ i _ => M2.length - (intOf i).toNat)
     case atStart => exact ⟨0, nd, by omega, rfl, rfl⟩
     case round =>
      obtain ⟨k, nd, hk, rfl, rfl⟩ := hrel
      by_cases hq : k < M2.length
      ·have hb : decide ((k : Int) < (M2.length : Int)) = true := by simp; omega
       have p1 : ((k : Int) < (M2.length : Int)) = True := eq_true (by omega)
       obtain ⟨ad, eA, hx, mq⟩ := sN R1.out.ar k (by omega) (by omega)
       obtain ⟨ae, eB, hy, zF⟩ := sN R2.out.ar k (by omega) (by omega)
       cases eA
       cases eB
       rw [Int.toNat_natCast] at hx hy mq zF
       go_wp2
       go_quiet (fail)
       go_wp2
       go_roundw
       case rel => exact ⟨k + 1, _, by omega, rfl, by go_num⟩
       case measure => simp [intOf]; omega
      ·obtain rfl : k = M2.length := by omega
       have hb : decide ((M2.length : Int) < (M2.length : Int)) = false := by simp
       go_wp2
       go_ret
       exact ⟨rfl, ab (bA cG.out (Below.refl _ _)) _⟩
end Go.Proofs.Ytemhalnhbgkbcaa.V
end

section
namespace Go.Proofs.Ytemhalnhbgkbcaa.V
attribute [local go_sem] dA dy ed ec cP cN dz dx
def b3.l0 : Nat → Int → Int → ByteArray → List Int → List Int → Option (Int × ByteArray × List Int × List Int × (List (S76)))
 | 0, _, _, _, _, _ => none
 | k + 1, x6, Cd, Cc, wV, wU => if x6 < 64 then (if wV.length < 17592186044416 then (if wU.length < 17592186044416 then (b3.l0 k (wrap64 (x6 + 1)) Cd Cc (wV ++ [0]) (wU ++ [x6])) else (none)) else (none)) else (some (Cd, Cc, wV, wU, ([] : List (S76))))
def b3.f (k : Nat) (a0 : Int) (a1 : ByteArray) : Option (Int × ByteArray × List Int × List Int × (List (S76))) := b3.l0 k 0 ((a0 - (Int.tmod a0 64)) % 4294967296) a1 ([] : List Int) ([] : List Int)
theorem b3.mono_l : ∀ k, (∀ y0 y1 y2 y3 y4, aC (b3.l0 k y0 y1 y2 y3 y4) (b3.l0 (k + 1) y0 y1 y2 y3 y4))
 | 0 => fun _ _ _ _ _ r h => by simp [b3.l0] at h
 | k + 1 => by
  have cE := b3.mono_l k
  ·intro y0 y1 y2 y3 y4
   unfold b3.l0
   repeat' first
   | (with_reducible exact cE _ _ _ _ _)
   | (with_reducible exact aC.refl _)
   | (with_reducible exact aC.none _)
   | (with_reducible refine aC.ite ?_ ?_)
   | (with_reducible refine aC.bind ?_ (fun _ => ?_))
   | exact cE _ _ _ _ _
   | exact aC.none _
   | refine aC.ite ?_ ?_
   | refine aC.bind ?_ (fun _ => ?_)
theorem b3.mono : ∀ a0 a1 k, aC (b3.f k a0 a1) (b3.f (k + 1) a0 a1) := by
 intro a0 a1 k
 have cE := b3.mono_l k
 unfold b3.f
 repeat' first
   | (with_reducible exact cE _ _ _ _ _)
   | (with_reducible exact aC.refl _)
   | (with_reducible exact aC.none _)
   | (with_reducible refine aC.ite ?_ ?_)
   | (with_reducible refine aC.bind ?_ (fun _ => ?_))
   | exact cE _ _ _ _ _
   | exact aC.none _
   | refine aC.ite ?_ ?_
   | refine aC.bind ?_ (fun _ => ?_)
set_option maxHeartbeats 8000000 in
set_option maxRecDepth 100000 in
theorem b3.calls (k : Nat) (a0 : Int) (a1 : ByteArray) (r1 : Int) (r2 : ByteArray) (r3 : List Int) (r4 : List Int) (r5 : List (S76)) (w : World) (h : b3.f k a0 a1 = some (r1, r2, r3, r4, r5)) :
  Calls Try.prog 45 #[.int .u32 a0, .string a1] w fun e w' => ∃ Dn Dm Is : Value, e = .returned (.agg #[.int .u32 r1, .string r2, Dn, Dm, Is]) ∧ Kd.R (Kd.int .i64) 3 w' w.heap.size (fun k_ => some k_ ≠ (Dm : Value).ownBlock) Dn r3 ∧ Kd.R (Kd.int .i64) 3 w' w.heap.size (fun k_ => some k_ ≠ (Dn : Value).ownBlock) Dm r4 ∧ Kd.R ia 76 w' w.heap.size (fun _ => True) Is r5 ∧ Below w.heap.size w w' := by
 have Hf := Try.underlying62
 have HB := ak (Below.refl w.heap.size w)
 have H : (b3.l0 k 0 ((a0 - (Int.tmod a0 64)) % 4294967296) a1 ([] : List Int) ([] : List Int)) = some (r1, r2, r3, r4, r5) := h
 clear h
 have H' := ak H
 clear H
 go_enter Try.func45, Try.ntmps45
 go_wp2_with (first | ((with_reducible refine aJ (N := 4) rfl ?_); refine eY ?hg (N := 4) ?hd (cs := #[.int .u32 0, .string (⟨#[]⟩ : ByteArray), .slice none 0 0, .slice none 0 0, .slice none 0 0]) (t := 62) ?hr ?_; (case hd => rfl); (case hg => rfl); (case hr => first | (go_simp; done) | (go_simp; rfl)); intro fH hg w3 hbox hb; have bR := ak (bA (by repeat (first | (with_reducible first | exact HB.out | apply af | apply ab | apply ai) | exact HB.out)) hb); have bX := ak (hbox); have dh := ak ((by rw [hg]; exact (bo (by repeat (first | (with_reducible first | exact HB.out | apply af | apply ab | apply ai) | exact HB.out))) : w.heap.size ≤ fH)); have dX := ak ((by rw [hg]; exact (bo (by repeat (first | (with_reducible first | exact HB.out | apply af | apply ab | apply ai) | exact HB.out))) : w.heap.size ≤ fH)); clear HB; have HB := bR; have fm := bX; have Yw := dh; have mM := dX; clear bR bX dh dX; clear hb hbox hg) | ((with_reducible refine aJ (N := 5) rfl ?_); refine eY ?hg (N := 5) ?hd (cs := #[.int .u32 0, .string (⟨#[]⟩ : ByteArray), .slice none 0 0, .slice none 0 0, .slice none 0 0]) (t := 62) ?hr ?_; (case hd => rfl); (case hg => rfl); (case hr => first | (go_simp; done) | (go_simp; rfl)); intro eu hg w4 hbox hb; have bR := ak (eh (g := fH) (o := .cells #[.int .u32 0, .string (⟨#[]⟩ : ByteArray), .slice none 0 0, .slice none 0 0, .slice none 0 0] 62 (0, 0)) (by (with_reducible repeat (first | refine ax ?_ _ | refine aG ?_ | refine ay ?_ _)); exact fm.out) hb); have bX := ak (bA (by repeat (first | (with_reducible first | exact HB.out | apply af | apply ab | apply ai | refine aD ?_ mM.out) | exact HB.out)) hb); have dh := ak (hbox); have dX := ak ((by rw [hg]; exact (bo (by repeat (first | (with_reducible first | exact HB.out | apply af | apply ab | apply ai | refine aD ?_ mM.out) | exact HB.out))) : w.heap.size ≤ eu)); have iE := ak ((by rw [hg]; exact (bo (by repeat (first | (with_reducible first | exact HB.out | apply af | apply ab | apply ai | refine aD ?_ mM.out) | exact HB.out))) : w.heap.size ≤ eu)); have kL := ak ((by rw [hg]; exact Nat.ne_of_lt (gu (g := fH) (o := .cells #[.int .u32 0, .string (⟨#[]⟩ : ByteArray), .slice none 0 0, .slice none 0 0, .slice none 0 0] 62 (0, 0)) (by (with_reducible repeat (first | refine ax ?_ _ | refine aG ?_ | refine ay ?_ _)); exact fm.out)) : fH ≠ eu)); have l5 := ak ((by rw [hg]; exact Nat.ne_of_gt (gu (g := fH) (o := .cells #[.int .u32 0, .string (⟨#[]⟩ : ByteArray), .slice none 0 0, .slice none 0 0, .slice none 0 0] 62 (0, 0)) (by (with_reducible repeat (first | refine ax ?_ _ | refine aG ?_ | refine ay ?_ _)); exact fm.out)) : eu ≠ fH)); clear fm; clear HB; have fm := bR; have HB := bX; have bV := dh; have Yv := dX; have qm := iE; have iq := kL; have q9 := l5; clear bR bX dh dX iE kL l5; clear hb hbox hg; have ag5 := q9.out; have ag2 := iq.out; have Ef : w4.cell? ⟨eu, 0, none⟩ = some (.int .u32 0) := (al bV.out 0).trans rfl; have Ee : w4.cell? ⟨eu, 1, none⟩ = some (.string (⟨#[]⟩ : ByteArray)) := (al bV.out 1).trans rfl; have ZA : w4.cell? ⟨eu, 2, none⟩ = some (.slice none 0 0) := (al bV.out 2).trans rfl; have Zz : w4.cell? ⟨eu, 3, none⟩ = some (.slice none 0 0) := (al bV.out 3).trans rfl; have Zy : w4.cell? ⟨eu, 4, none⟩ = some (.slice none 0 0) := (al bV.out 4).trans rfl; have D8 := aj bV.out 0; have D7 := aj bV.out 1; have Zi := aj bV.out 2; have Zh := aj bV.out 3; have Zg := aj bV.out 4))
 go_loopg [6] k (fun kq v6 w' => ∃ (qa : Int) (iH : List Int) (ik : List Int) (kK : Value) (iD : Value), v6 = .int .i64 qa ∧ Aside0 (b3.l0 kq qa ((a0 - (Int.tmod a0 64)) % 4294967296) a1 iH ik = some (r1, r2, r3, r4, r5)) ∧ Aside0 (kq ≤ k) ∧ Aside0 (Kd.R (Kd.int .i64) 3 w' w.heap.size (fun k_ => some k_ ≠ (iD : Value).ownBlock) kK iH) ∧ Aside0 (Kd.R (Kd.int .i64) 3 w' w.heap.size (fun k_ => some k_ ≠ (kK : Value).ownBlock) iD ik) ∧ Aside0 (w'.heap[fH]? = some (.cells #[.int .u32 0, .string (⟨#[]⟩ : ByteArray), (.slice none 0 0), (.slice none 0 0), (.slice none 0 0)] 62 (0, 0))) ∧ Aside0 (w'.heap[eu]? = some (.cells #[.int .u32 ((a0 - (Int.tmod a0 64)) % 4294967296), .string a1, kK, iD, (.slice none 0 0)] 62 (0, 0))) ∧ Aside0 (Below w.heap.size w w'))
 case atStart => exact ⟨(0), (([] : List Int)), (([] : List Int)), (.slice none 0 0), (.slice none 0 0), (by first | rfl | (simp; done) | (simp [*]; done)), H', ⟨Nat.le_refl _⟩, ⟨by first | exact Kd.R_nil _ _ _ _ _ | exact Kd.N_nil _ _ _ _ _ | exact Kd.V_nil _ _ _ _ _ | exact Kd.Q_nil _ _ _ _ _ | exact Kd.S_nil _ _ _ _ _⟩, ⟨by first | exact Kd.R_nil _ _ _ _ _ | exact Kd.N_nil _ _ _ _ _ | exact Kd.V_nil _ _ _ _ _ | exact Kd.Q_nil _ _ _ _ _ | exact Kd.S_nil _ _ _ _ _⟩, ⟨by (with_reducible repeat (first | refine ax ?_ _ | refine aG ?_ | refine ay ?_ _)); refine iG ?_ iq.out _; (with_reducible repeat (first | refine ax ?_ _ | refine aG ?_ | refine ay ?_ _)); refine iG ?_ iq.out _; (with_reducible repeat (first | refine ax ?_ _ | refine aG ?_ | refine ay ?_ _)); refine iG ?_ iq.out _; (with_reducible repeat (first | refine ax ?_ _ | refine aG ?_ | refine ay ?_ _)); refine iG ?_ iq.out _; (with_reducible repeat (first | refine ax ?_ _ | refine aG ?_ | refine ay ?_ _)); refine iG ?_ iq.out _; (with_reducible repeat (first | refine ax ?_ _ | refine aG ?_ | refine ay ?_ _)); exact fm.out⟩, ⟨by (with_reducible repeat (first | refine ax ?_ _ | refine aG ?_ | refine ay ?_ _)); refine e7 (cs := #[.int .u32 ((a0 - (Int.tmod a0 64)) % 4294967296), .string a1, .slice none 0 0, .slice none 0 0, .slice none 0 0]) ?_ 4 _ rfl; (with_reducible repeat (first | refine ax ?_ _ | refine aG ?_ | refine ay ?_ _)); refine e7 (cs := #[.int .u32 ((a0 - (Int.tmod a0 64)) % 4294967296), .string a1, .slice none 0 0, .slice none 0 0, .slice none 0 0]) ?_ 3 _ rfl; (with_reducible repeat (first | refine ax ?_ _ | refine aG ?_ | refine ay ?_ _)); refine e7 (cs := #[.int .u32 ((a0 - (Int.tmod a0 64)) % 4294967296), .string a1, .slice none 0 0, .slice none 0 0, .slice none 0 0]) ?_ 2 _ rfl; (with_reducible repeat (first | refine ax ?_ _ | refine aG ?_ | refine ay ?_ _)); refine e7 (cs := #[.int .u32 ((a0 - (Int.tmod a0 64)) % 4294967296), .string (⟨#[]⟩ : ByteArray), .slice none 0 0, .slice none 0 0, .slice none 0 0]) ?_ 1 _ rfl; (with_reducible repeat (first | refine ax ?_ _ | refine aG ?_ | refine ay ?_ _)); refine e7 (cs := #[.int .u32 0, .string (⟨#[]⟩ : ByteArray), .slice none 0 0, .slice none 0 0, .slice none 0 0]) ?_ 0 _ rfl; (with_reducible repeat (first | refine ax ?_ _ | refine aG ?_ | refine ay ?_ _)); exact bV.out⟩, ⟨by repeat (first | (with_reducible first | exact HB.out | apply af | apply ab | apply ai | refine aD ?_ mM.out | refine aD ?_ qm.out) | exact HB.out)⟩⟩
 case round =>
  clear H'
  obtain ⟨qa, iH, ik, kK, iD, rfl, HA, dq, mL, jd, fm, bV, HB⟩ := hrel
  cases gk with
  | zero => exact absurd HA.out (by simp [b3.l0])
  | succ k1 =>
   have H := HA.out
   clear HA
   simp only [b3.l0] at H
   by_cases c7 : qa < 64
   ·rw [if_pos c7] at H
    have lh : decide (qa < 64) = true := decide_eq_true c7
    clear c7
    by_cases c8 : iH.length < 17592186044416
    ·rw [if_pos c8] at H
     have UI := ak c8
     clear c8
     obtain ⟨m5, vE⟩ : ∃ y_ : List Int, y_ = (iH ++ [0]) := ⟨_, rfl⟩
     replace H : (if ik.length < 17592186044416 then (b3.l0 k1 (wrap64 (qa + 1)) ((a0 - (Int.tmod a0 64)) % 4294967296) a1 m5 (ik ++ [qa])) else (none)) = some (r1, r2, r3, r4, r5) := by first | (rw [vE]; with_reducible exact H) | (have fx := (Option.bind_some _ _).symm.trans H; rw [vE]; with_reducible exact fx) | (have fx := (Option.bind_some _ _).symm.trans H; with_reducible exact fx) | with_reducible exact H | (rw [vE]; exact H) | exact H
     have PH := ak vE
     clear vE
     by_cases c9 : ik.length < 17592186044416
     ·rw [if_pos c9] at H
      have UH := ak c9
      clear c9
      obtain ⟨wR, vD⟩ : ∃ y_ : List Int, y_ = (ik ++ [qa]) := ⟨_, rfl⟩
      replace H : (b3.l0 k1 (wrap64 (qa + 1)) ((a0 - (Int.tmod a0 64)) % 4294967296) a1 m5 wR) = some (r1, r2, r3, r4, r5) := by first | (rw [vD]; with_reducible exact H) | (have fx := (Option.bind_some _ _).symm.trans H; rw [vD]; with_reducible exact fx) | (have fx := (Option.bind_some _ _).symm.trans H; with_reducible exact fx) | with_reducible exact H | (rw [vD]; exact H) | exact H
      have PG := ak vD
      clear vD
      have H' := ak H
      clear H
      have ad7 := q9.out
      have ac1 := iq.out
      have Ga : wr.cell? ⟨eu, 0, none⟩ = some (.int .u32 ((a0 - (Int.tmod a0 64)) % 4294967296)) := (al bV.out 0).trans rfl
      have F9 : wr.cell? ⟨eu, 1, none⟩ = some (.string a1) := (al bV.out 1).trans rfl
      have O9 : wr.cell? ⟨eu, 2, none⟩ = some (kK) := (al bV.out 2).trans rfl
      have O8 : wr.cell? ⟨eu, 3, none⟩ = some (iD) := (al bV.out 3).trans rfl
      have O7 : wr.cell? ⟨eu, 4, none⟩ = some (.slice none 0 0) := (al bV.out 4).trans rfl
      have F8 := aj bV.out 0
      have F7 := aj bV.out 1
      have OB := aj bV.out 2
      have OA := aj bV.out 3
      have Oz := aj bV.out 4
      go_wp2_with (first | ((with_reducible refine cy (b := .append) (xs := #[.tmp 18, .tmp 19]) rfl ?_); at_builtin; refine Kd.R_append (Kd.int .i64) (w0 := w) w.heap.size rfl (.tmp 18) (.tmp 19) 31 3 (.int .i64 0) 8 rfl Try.underlying31 ye rfl (by decide) (by omega) kK iH 0 [.int .i64 0] (fun k_ => some k_ ≠ (iD : Value).ownBlock) (fun _ => False) rfl rfl ?aP (fun _ hk => hk.elim) ?aF ?aO ?aB ?aS ?aL ?_; (case aP => exact rfl); (case aB => exact (by repeat (first | (with_reducible first | exact HB.out | apply af | apply ab | apply ai | refine aD ?_ mM.out | refine aD ?_ qm.out) | exact HB.out))); (case aF => exact (fun k_ hk => Kd.fresh' (Kd.R_lt (by (with_reducible repeat (first | apply Kd.R_alloc | apply Kd.R_drewN | apply Kd.R_drew)); exact jd.out)) k_ hk)); (case aO => exact (by (with_reducible repeat (first | apply Kd.R_alloc | apply Kd.R_drewN | apply Kd.R_drew)); exact mL.out)); (case aS => exact (bo (by repeat (first | (with_reducible first | exact HB.out | apply af | apply ab | apply ai | refine aD ?_ mM.out | refine aD ?_ qm.out) | exact HB.out)))); (case aL => have := UI.out; omega); intro YP FW ho hb hg hat; rw [← PH.out] at ho; have bR := ak (Kd.R_after (ok := (fun _ => True)) (by (with_reducible repeat (first | apply Kd.R_alloc | apply Kd.R_drewN | apply Kd.R_drew)); exact Kd.R_mono jd.out (fun _ hk => ⟨trivial, hk⟩)) hg hat); have bX := ak (kP (g := fH) (o := .cells #[.int .u32 0, .string (⟨#[]⟩ : ByteArray), .slice none 0 0, .slice none 0 0, .slice none 0 0] 62 (0, 0)) (by (with_reducible repeat (first | refine ax ?_ _ | refine aG ?_ | refine ay ?_ _)); exact fm.out) hg (Kd.R_ne mL.out fm.out (by decide))); have dh := ak (kP (g := eu) (o := .cells #[.int .u32 ((a0 - (Int.tmod a0 64)) % 4294967296), .string a1, kK, iD, .slice none 0 0] 62 (0, 0)) (by (with_reducible repeat (first | refine ax ?_ _ | refine aG ?_ | refine ay ?_ _)); exact bV.out) hg (Kd.R_ne mL.out bV.out (by decide))); have dX := ak (hb); have iE := ak (ho); clear jd; clear fm; clear bV; clear HB; clear mL; have jd := bR; have fm := bX; have bV := dh; have HB := dX; have rO := iE; clear bR bX dh dX iE; clear ho hb hg hat; obtain ⟨xV, uF, Hp⟩ := Kd.R_slice rO.out; subst Hp; have O1 : FW.cell? ⟨eu, 0, none⟩ = some (.int .u32 ((a0 - (Int.tmod a0 64)) % 4294967296)) := (al bV.out 0).trans rfl; have O0 : FW.cell? ⟨eu, 1, none⟩ = some (.string a1) := (al bV.out 1).trans rfl; have OZ : FW.cell? ⟨eu, 2, none⟩ = some (kK) := (al bV.out 2).trans rfl; have OY : FW.cell? ⟨eu, 3, none⟩ = some (iD) := (al bV.out 3).trans rfl; have OX : FW.cell? ⟨eu, 4, none⟩ = some (.slice none 0 0) := (al bV.out 4).trans rfl; have Ot := aj bV.out 0; have Oq := aj bV.out 1; have Oo := aj bV.out 2; have On := aj bV.out 3; have Om := aj bV.out 4) | ((with_reducible refine cy (b := .append) (xs := #[.tmp 23, .tmp 25]) rfl ?_); at_builtin; refine Kd.R_append (Kd.int .i64) (w0 := w) w.heap.size rfl (.tmp 23) (.tmp 25) 31 3 (.int .i64 0) 8 rfl Try.underlying31 ye rfl (by decide) (by omega) iD ik qa [.int .i64 qa] (fun k_ => some k_ ≠ (.slice xV m5.length uF : Value).ownBlock) (fun _ => False) rfl (by first | (go_simp; done) | (go_simp; rfl)) ?aP (fun _ hk => hk.elim) ?aF ?aO ?aB ?aS ?aL ?_; (case aP => exact rfl); (case aB => exact (by repeat (first | (with_reducible first | exact HB.out | apply af | apply ab | apply ai | refine aD ?_ mM.out | refine aD ?_ qm.out) | exact HB.out))); (case aF => exact (fun k_ hk => Kd.fresh' (Kd.R_lt (by (with_reducible repeat (first | apply Kd.R_alloc | apply Kd.R_drewN | apply Kd.R_drew)); exact (Kd.R_mono (Kd.R_far (p := ⟨eu, 2, none⟩) (Kd.R_types rO.out bV.out (by decide)) (fun _ hk => hk.2) (.slice xV m5.length uF)) (fun _ h_ => h_.1)))) k_ hk)); (case aO => exact (by (with_reducible repeat (first | apply Kd.R_alloc | apply Kd.R_drewN | apply Kd.R_drew)); exact Kd.R_mono (Kd.R_far (p := ⟨eu, 2, none⟩) (Kd.R_types jd.out bV.out (by decide)) (fun _ hk => hk.2) (.slice xV m5.length uF)) (fun _ hk => hk.1.2))); (case aS => exact (bo (by repeat (first | (with_reducible first | exact HB.out | apply af | apply ab | apply ai | refine aD ?_ mM.out | refine aD ?_ qm.out) | exact HB.out)))); (case aL => have := UH.out; omega); intro YO zp ho hb hg hat; rw [← PG.out] at ho; have bR := ak (kP (g := fH) (o := .cells #[.int .u32 0, .string (⟨#[]⟩ : ByteArray), .slice none 0 0, .slice none 0 0, .slice none 0 0] 62 (0, 0)) (by (with_reducible repeat (first | refine ax ?_ _ | refine aG ?_ | refine ay ?_ _)); refine iG ?_ iq.out _; (with_reducible repeat (first | refine ax ?_ _ | refine aG ?_ | refine ay ?_ _)); exact fm.out) hg (Kd.R_ne jd.out fm.out (by decide))); have bX := ak (kP (g := eu) (o := .cells #[.int .u32 ((a0 - (Int.tmod a0 64)) % 4294967296), .string a1, .slice xV m5.length uF, iD, .slice none 0 0] 62 (0, 0)) (by (with_reducible repeat (first | refine ax ?_ _ | refine aG ?_ | refine ay ?_ _)); refine e7 (cs := #[.int .u32 ((a0 - (Int.tmod a0 64)) % 4294967296), .string a1, kK, iD, .slice none 0 0]) ?_ 2 _ rfl; (with_reducible repeat (first | refine ax ?_ _ | refine aG ?_ | refine ay ?_ _)); exact bV.out) hg (Kd.R_ne jd.out bV.out (by decide))); have dh := ak (Kd.R_after (ok := (fun _ => True)) (by (with_reducible repeat (first | apply Kd.R_alloc | apply Kd.R_drewN | apply Kd.R_drew)); exact Kd.R_mono (Kd.R_far (p := ⟨eu, 2, none⟩) (Kd.R_types rO.out bV.out (by decide)) (fun _ hk => hk.2) (.slice xV m5.length uF)) (fun _ hk => ⟨trivial, hk.1⟩)) hg hat); have dX := ak (hb); have iE := ak (ho); clear fm; clear bV; clear rO; clear HB; clear jd; have fm := bR; have bV := bX; have rO := dh; have HB := dX; have GM := iE; clear bR bX dh dX iE; clear ho hb hg hat; obtain ⟨K6, KM, UB⟩ := Kd.R_slice GM.out; subst UB; have Yc : zp.cell? ⟨eu, 0, none⟩ = some (.int .u32 ((a0 - (Int.tmod a0 64)) % 4294967296)) := (al bV.out 0).trans rfl; have Yb : zp.cell? ⟨eu, 1, none⟩ = some (.string a1) := (al bV.out 1).trans rfl; have Ya : zp.cell? ⟨eu, 2, none⟩ = some (.slice xV m5.length uF) := (al bV.out 2).trans rfl; have X9 : zp.cell? ⟨eu, 3, none⟩ = some (iD) := (al bV.out 3).trans rfl; have X8 : zp.cell? ⟨eu, 4, none⟩ = some (.slice none 0 0) := (al bV.out 4).trans rfl; have Wu := aj bV.out 0; have Wt := aj bV.out 1; have Ws := aj bV.out 2; have Wr := aj bV.out 3; have Wq := aj bV.out 4))
      go_roundg k1
      case measure => have := dq.out; omega
      case rel => exact ⟨(wrap64 (qa + 1)), (m5), (wR), (.slice xV m5.length uF), (.slice K6 wR.length KM), (by first | rfl | (simp; done) | (simp [*]; done)), H', ⟨by have := dq.out; omega⟩, ⟨by (with_reducible repeat (first | apply Kd.R_alloc | apply Kd.R_drewN | apply Kd.R_drew)); exact Kd.R_mono (Kd.R_far (p := ⟨eu, 3, none⟩) (Kd.R_types rO.out bV.out (by decide)) (fun _ hk => hk.2) (.slice K6 wR.length KM)) (fun _ hk => hk.1.2)⟩, ⟨by (with_reducible repeat (first | apply Kd.R_alloc | apply Kd.R_drewN | apply Kd.R_drew)); exact Kd.R_mono (Kd.R_far (p := ⟨eu, 3, none⟩) (Kd.R_types GM.out bV.out (by decide)) (fun _ hk => hk.2) (.slice K6 wR.length KM)) (fun _ hk => hk.1)⟩, ⟨by (with_reducible repeat (first | refine ax ?_ _ | refine aG ?_ | refine ay ?_ _)); refine iG ?_ iq.out _; (with_reducible repeat (first | refine ax ?_ _ | refine aG ?_ | refine ay ?_ _)); exact fm.out⟩, ⟨by (with_reducible repeat (first | refine ax ?_ _ | refine aG ?_ | refine ay ?_ _)); refine e7 (cs := #[.int .u32 ((a0 - (Int.tmod a0 64)) % 4294967296), .string a1, .slice xV m5.length uF, iD, .slice none 0 0]) ?_ 3 _ rfl; (with_reducible repeat (first | refine ax ?_ _ | refine aG ?_ | refine ay ?_ _)); exact bV.out⟩, ⟨by repeat (first | (with_reducible first | exact HB.out | apply af | apply ab | apply ai | refine aD ?_ mM.out | refine aD ?_ qm.out) | exact HB.out)⟩⟩
     ·rw [if_neg c9] at H
      exact absurd H (by simp)
    ·rw [if_neg c8] at H
     exact absurd H (by simp)
   ·rw [if_neg c7] at H
    have lh : decide (qa < 64) = false := decide_eq_false c7
    clear c7
    simp only [Option.some.injEq, Prod.mk.injEq] at H
    obtain ⟨rfl, rfl, rfl, rfl, rfl⟩ := H
    have ad5 := q9.out
    have ab9 := iq.out
    have OW : wr.cell? ⟨eu, 0, none⟩ = some (.int .u32 ((a0 - (Int.tmod a0 64)) % 4294967296)) := (al bV.out 0).trans rfl
    have OV : wr.cell? ⟨eu, 1, none⟩ = some (.string a1) := (al bV.out 1).trans rfl
    have OU : wr.cell? ⟨eu, 2, none⟩ = some (kK) := (al bV.out 2).trans rfl
    have OT : wr.cell? ⟨eu, 3, none⟩ = some (iD) := (al bV.out 3).trans rfl
    have OS : wr.cell? ⟨eu, 4, none⟩ = some (.slice none 0 0) := (al bV.out 4).trans rfl
    have Ol := aj bV.out 0
    have Oj := aj bV.out 1
    have Oi := aj bV.out 2
    have Oh := aj bV.out 3
    have Og := aj bV.out 4
    have OR : wr.cell? ⟨fH, 0, none⟩ = some (.int .u32 0) := (al fm.out 0).trans rfl
    have OQ : wr.cell? ⟨fH, 1, none⟩ = some (.string (⟨#[]⟩ : ByteArray)) := (al fm.out 1).trans rfl
    have X7 : wr.cell? ⟨fH, 2, none⟩ = some (.slice none 0 0) := (al fm.out 2).trans rfl
    have X6 : wr.cell? ⟨fH, 3, none⟩ = some (.slice none 0 0) := (al fm.out 3).trans rfl
    have X5 : wr.cell? ⟨fH, 4, none⟩ = some (.slice none 0 0) := (al fm.out 4).trans rfl
    have Of := aj fm.out 0
    have Oe := aj fm.out 1
    have Wp := aj fm.out 2
    have Wo := aj fm.out 3
    have Wn := aj fm.out 4
    obtain ⟨Ff, ED, Uz⟩ := Kd.R_slice mL.out
    subst Uz
    obtain ⟨Ic, Hq, Uy⟩ := Kd.R_slice jd.out
    subst Uy
    go_wp2
    refine bodyPost_ret (results_cell_row rfl _ _ fH 62 #[.int .u32 ((a0 - (Int.tmod a0 64)) % 4294967296), .string a1, .slice Ff iH.length ED, .slice Ic ik.length Hq, .slice none 0 0] (0, 0) _ rfl (by (with_reducible repeat (first | refine ax ?_ _ | refine aG ?_ | refine ay ?_ _)); refine e7 (cs := #[.int .u32 ((a0 - (Int.tmod a0 64)) % 4294967296), .string a1, .slice Ff iH.length ED, .slice Ic ik.length Hq, .slice none 0 0]) ?_ 4 _ rfl; (with_reducible repeat (first | refine ax ?_ _ | refine aG ?_ | refine ay ?_ _)); refine e7 (cs := #[.int .u32 ((a0 - (Int.tmod a0 64)) % 4294967296), .string a1, .slice Ff iH.length ED, .slice none 0 0, .slice none 0 0]) ?_ 3 _ rfl; (with_reducible repeat (first | refine ax ?_ _ | refine aG ?_ | refine ay ?_ _)); refine e7 (cs := #[.int .u32 ((a0 - (Int.tmod a0 64)) % 4294967296), .string a1, .slice none 0 0, .slice none 0 0, .slice none 0 0]) ?_ 2 _ rfl; (with_reducible repeat (first | refine ax ?_ _ | refine aG ?_ | refine ay ?_ _)); refine e7 (cs := #[.int .u32 ((a0 - (Int.tmod a0 64)) % 4294967296), .string (⟨#[]⟩ : ByteArray), .slice none 0 0, .slice none 0 0, .slice none 0 0]) ?_ 1 _ rfl; (with_reducible repeat (first | refine ax ?_ _ | refine aG ?_ | refine ay ?_ _)); refine e7 (cs := #[.int .u32 0, .string (⟨#[]⟩ : ByteArray), .slice none 0 0, .slice none 0 0, .slice none 0 0]) ?_ 0 _ rfl; (with_reducible repeat (first | refine ax ?_ _ | refine aG ?_ | refine ay ?_ _)); exact fm.out) Try.underlying62 rfl (by kernel_rfl)) rfl ?_
    exact ⟨_, _, _, by first | rfl | (simp [bf, bd] <;> rfl) | (simp [*, bf, bd] <;> rfl), by (with_reducible repeat (first | apply Kd.R_alloc | apply Kd.R_drewN | apply Kd.R_drew)); exact Kd.R_mono (Kd.R_far (p := ⟨fH, 4, none⟩) (Kd.R_far (p := ⟨fH, 3, none⟩) (Kd.R_far (p := ⟨fH, 2, none⟩) (Kd.R_far (p := ⟨fH, 1, none⟩) (Kd.R_far (p := ⟨fH, 0, none⟩) (Kd.R_types mL.out fm.out (by decide)) (fun _ hk => hk.2) (.int .u32 ((a0 - (Int.tmod a0 64)) % 4294967296))) (fun _ hk => hk.2) (.string a1)) (fun _ hk => hk.2) (.slice Ff iH.length ED)) (fun _ hk => hk.2) (.slice Ic ik.length Hq)) (fun _ hk => hk.2) (.slice none 0 0)) (fun _ hk => hk.1), by (with_reducible repeat (first | apply Kd.R_alloc | apply Kd.R_drewN | apply Kd.R_drew)); exact Kd.R_mono (Kd.R_far (p := ⟨fH, 4, none⟩) (Kd.R_far (p := ⟨fH, 3, none⟩) (Kd.R_far (p := ⟨fH, 2, none⟩) (Kd.R_far (p := ⟨fH, 1, none⟩) (Kd.R_far (p := ⟨fH, 0, none⟩) (Kd.R_types jd.out fm.out (by decide)) (fun _ hk => hk.2) (.int .u32 ((a0 - (Int.tmod a0 64)) % 4294967296))) (fun _ hk => hk.2) (.string a1)) (fun _ hk => hk.2) (.slice Ff iH.length ED)) (fun _ hk => hk.2) (.slice Ic ik.length Hq)) (fun _ hk => hk.2) (.slice none 0 0)) (fun _ hk => hk.1), by first | exact Kd.R_nil _ _ _ _ _ | exact Kd.N_nil _ _ _ _ _ | exact Kd.V_nil _ _ _ _ _ | exact Kd.Q_nil _ _ _ _ _ | exact Kd.S_nil _ _ _ _ _, by repeat (first | (with_reducible first | exact HB.out | apply af | apply ab | apply ai | refine aD ?_ mM.out | refine aD ?_ qm.out) | exact HB.out)⟩
end Go.Proofs.Ytemhalnhbgkbcaa.V
end

section
namespace Go.Proofs.Ytemhalnhbgkbcaa.V
theorem NY (x : Int) (s : ByteArray) : ∀ (d k i : Nat), i + d = 64 → d < k → b3.l0 k (i : Int) x s (List.replicate i 0) (l9 i) = some (x, s, List.replicate 64 0, l9 64, []) := by
 intro d
 induction d with
 | zero =>
  intro k i hi hk
  obtain ⟨k, rfl⟩ : ∃ m, k = m + 1 := ⟨k - 1, by omega⟩
  obtain rfl : i = 64 := by omega
  rw [b3.l0, if_neg (by decide)]
 | succ d ih =>
  intro k i hi hk
  obtain ⟨k, rfl⟩ : ∃ m, k = m + 1 := ⟨k - 1, by omega⟩
  rw [b3.l0, if_pos (by omega), iC _ (by omega) (by omega), show (i : Int) + 1 = ((i + 1 : Nat) : Int) by omega]
  have h := ih k (i + 1) (by omega) (by omega)
  rw [zD, List.replicate_succ'] at h
  rw [if_pos (by rw [List.length_replicate]; omega), if_pos (by rw [xo]; omega)]
  exact h
theorem J3 (a : Int) (h0 : 0 ≤ a) (h1 : a < 4294967296) (s : ByteArray) (w : World) :
  Calls Try.prog 45 #[.int .u32 a, .string s] w fun e w' => ∃ v, e = .returned v ∧ fw w' w.heap.size v (vU a s) ∧ Below w.heap.size w w' := by
 have hf : b3.f 100 a s = some (cC a, s, List.replicate 64 0, l9 64, []) := by
  have e : (a - Int.tmod a 64) % 4294967296 = cC a := by
   unfold cC
   rw [Int.tmod_eq_emod_of_nonneg h0]
   omega
  have h := NY (cC a) s 64 100 0 (by omega) (by omega)
  rw [← e] at h ⊢
  exact h
 refine (b3.calls 100 a s _ _ _ _ _ w hf).mono ?_
 rintro e w' ⟨v2, v3, v4, rfl, r2, r3, r4, hb⟩
 exact ⟨_, rfl, ⟨v2, v3, v4, rfl, Kd.R_mono (ok' := fun _ => True) r2 (fun _ _ => trivial), Kd.R_mono (ok' := fun _ => True) r3 (fun _ _ => trivial), r4⟩, hb⟩
end Go.Proofs.Ytemhalnhbgkbcaa.V
end

section
namespace Go.Proofs.Ytemhalnhbgkbcaa.V
set_option maxHeartbeats 4000000 in
set_option maxRecDepth 100000 in
theorem Jr (b : Bk) (hk : BkOk b) (v : Value) (w : World) (h : jb w v b) : Calls Try.prog 57 #[v] w fun e w' => e = .returned (.bool (eE b && ((b.free.length : Int) == 64))) ∧ Below w.heap.size w w' := by
 obtain ⟨A, c, A', c', rfl, hr⟩ := h
 have HR := ak hr
 have HL := ak hr.l64
 have HK := ak hk
 clear hr hk
 cases hrt : eE b with
 | false =>
  have HRT := ak hrt
  clear hrt
  go_enter Try.func57, Try.ntmps57
  go_wp2_with (first
   | (refine aV rfl 57 (.tmp 0) rfl _ rfl ?_; intro g W1 hg hbx cI; have gl := ak hbx; have mG := ak (HR.out.below cI); have cG := ak cI; clear hbx cI hg)
   | (refine aN rfl 57 (.tmp 1) rfl g rfl _ _ _ gl.out Try.underlying57 rfl 68 (by kernel_rfl) (ao _ _ _ _ _ HL.out) ?_)
   | (go_at_call 48; refine (e8 b HK.out _ _ ⟨A, c, A', c', rfl, mG.out⟩).mono ?_; rintro e W2 ⟨rfl, eX⟩; rw [HRT.out]; have jk := ak (cG.out.trans (eX.mono cG.out.size)); clear eX))
  go_ret
  exact ⟨rfl, jk.out⟩
 | true =>
  have HRT := ak hrt
  clear hrt
  go_enter Try.func57, Try.ntmps57
  go_wp2_with (first
   | (refine aV rfl 57 (.tmp 0) rfl _ rfl ?_; intro g W1 hg hbx cI; have gl := ak hbx; have mG := ak (HR.out.below cI); have cG := ak cI; clear hbx cI hg)
   | (refine aN rfl 57 (.tmp 1) rfl g rfl _ _ _ gl.out Try.underlying57 rfl 68 (by kernel_rfl) (ao _ _ _ _ _ HL.out) ?_)
   | (go_at_call 48; refine (e8 b HK.out _ _ ⟨A, c, A', c', rfl, mG.out⟩).mono ?_; rintro e W2 ⟨rfl, eX⟩; rw [HRT.out]; have Gb := (gl.out.below eX).cell 66 _ (gF _ _ _ _ _ HL.out); have jk := ak (cG.out.trans (eX.mono cG.out.size)); clear eX))
  go_ret
  exact ⟨by simp, jk.out⟩
end Go.Proofs.Ytemhalnhbgkbcaa.V
end

section
namespace Go.Proofs.Ytemhalnhbgkbcaa.V
def Dj : ByteArray := ⟨#[110]⟩
def vP : Bk := vU 167772165 Dj
def JX : At := ⟨⟨#[104]⟩, ⟨#[110]⟩⟩
def wY : Bk := fF vP 2 JX
def rQ : List Int := fU vP 2
def uw : Bk := mV wY rQ
def GV : List Int := (relL wY rQ).2
def Se (l : List Int) : Bool := l.all (fun x => decide (0 ≤ x) && decide (x < 256))
theorem o6 {l : List Int} (h : Se l = true) : pI l := fun x hx => by
 have := List.all_eq_true.1 h x hx
 simpa using this
theorem NL : BkOk vP := ⟨by decide, by decide, o6 (by kernel_rfl), o6 (by kernel_rfl)⟩
theorem NK : BkOk wY := ⟨by decide, by decide, o6 (by kernel_rfl), o6 (by kernel_rfl)⟩
theorem NI : BkOk uw := ⟨by decide, by decide, o6 (by kernel_rfl), o6 (by kernel_rfl)⟩
theorem NN : gg Dj = true := by kernel_rfl
theorem NQ : mX vP 2 JX = true := by kernel_rfl
theorem GY : eE wY = true := by kernel_rfl
theorem GX : eE uw = true := by kernel_rfl
theorem NP : min (2 : Int).toNat vP.free.length = 2 := by kernel_rfl
theorem xY : rQ = [167772160, 167772161] := by kernel_rfl
theorem JW : GV.length = 2 := by kernel_rfl
theorem Dk : uw.free.length = 64 := by kernel_rfl
theorem NJ : rd uw.free 63 = 1 := by kernel_rfl
theorem NO (w : World) : Calls Try.prog 41 #[.int .u32 167772165, .string Dj] w fun e w' => ∃ v, e = .returned (.tuple #[v, .int .i64 0]) ∧ eP w' w.heap.size v vP ∧ Below w.heap.size w w' := by
 have h := BI 167772165 (by decide) (by decide) Dj w
 rw [NN] at h
 exact h
theorem GZ (v : Value) (w : World) (h : jb w v vP) : Calls Try.prog 49 #[v, .int .i64 2, .agg #[.string ⟨#[104]⟩, .string ⟨#[110]⟩]] w fun e w' => ∃ v' vo, e = .returned (.tuple #[v', vo, .int .i64 0]) ∧ eP w' w.heap.size v' wY ∧ Kd.R (Kd.int .u32) 46 w' w.heap.size (fun _ => True) vo rQ ∧ Below w.heap.size w w' := by
 have h2 := rA vP NL 2 (by decide) JX v w h
 rw [NQ, NP] at h2
 exact h2
theorem Fh (Al : Option Addr) (cl : Nat) (v : Value) (w : World) (h : jb w v wY) (hC : Kd.C (Kd.int .u32) w Al rQ.length rQ) : Calls Try.prog 52 #[v, .slice Al rQ.length cl] w fun e w' => ∃ v' vo, e = .returned (.tuple #[v', vo, .int .i64 0]) ∧ eP w' w.heap.size v' uw ∧ Kd.R (Kd.int .u32) 46 w' w.heap.size (fun _ => True) vo GV ∧ Below w.heap.size w w' := by
 have h2 := Fu wY NK rQ (by rw [xY]; decide) (by rw [xY]; decide) Al cl v w h hC
 rw [GY] at h2
 exact h2
theorem Iq (v : Value) (w : World) (h : jb w v uw) : Calls Try.prog 57 #[v] w fun e w' => e = .returned (.bool true) ∧ Below w.heap.size w w' := by
 have h2 := Jr uw NI v w h
 rw [GX, Dk] at h2
 exact h2
set_option maxHeartbeats 16000000 in
set_option maxRecDepth 100000 in
theorem uH (w : World) : Calls Try.prog 44 #[] w fun e w' => e = .returned (.bool true) ∧ Below w.heap.size w w' := by
 have HN := ak (fun w => NO w)
 have HA := ak (fun v w h => GZ v w h)
 have HE := ak (fun v w h => Iq v w h)
 have HRL := ak (fun A c v w h hC => Fh A c v w h hC)
 have hll : rQ.length = 2 := by rw [xY]; rfl
 have yC : rd rQ 1 = 167772161 := by rw [xY]; rfl
 have hml : GV.length = 2 := JW
 have hdl : uw.free.length = 64 := Dk
 have TP : rd uw.free 63 = 1 := NJ
 have an := ak (Below.refl w.heap.size w)
 unfold Dj at HN
 generalize rQ = l at *
 generalize GV = m at *
 generalize vP = b at *
 generalize wY = c at *
 generalize uw = d at *
 have HLL := ak hll
 have HQ1 := ak yC
 have HDL := ak hdl
 have HD6 := ak TP
 have t1 : ((l.length : Int) == 2) = true := by rw [hll]; rfl
 have t2 : ((m.length : Int) == 2) = true := by rw [hml]; rfl
 have t3 : ((d.free.length : Int) == 64) = true := by rw [hdl]; rfl
 clear hll yC hml hdl TP
 go_enter Try.func44, Try.ntmps44
 go_wp2_with (first
  | (go_at_call 41; refine (HN.out _).mono ?_; rintro e W1 ⟨v_, rfl, bc, I⟩; obtain ⟨iZ, p6, p7, rfl, dM, ew⟩ := bc; obtain ⟨Af1, ZV, rfl⟩ := Kd.R_slice dM; obtain ⟨Aa1, ZY, rfl⟩ := Kd.R_slice ew; have tW := ak iZ; have aA := ak (an.out.trans (I.mono an.out.size)); have Nq := ak (dM); have M6 := ak (ew); clear iZ dM ew I an)
  | (refine aH (some 1) rfl rfl 57 rfl bu b6 ?_; intro gX W2 J aa I; have cw := ge aA J; have aK := mv I aA; have Np := mv I Nq; have M5 := mv I M6; have aI := ak (aa); clear J aa I aA Nq M6)
  | (refine a7 rfl 57 (.tmp 1) (.tmp 11) rfl gX (bk b.addr b.aff b.slots (.slice Af1 b.free.length ZV) (.slice Aa1 b.attrs.length ZY)) rfl rfl 57 _ aI.out 68 (by kernel_rfl) (ao _ _ _ _ _ tW.out) rfl (cA _ _ _ _ _ rfl rfl) ?_; intro W3 aa J; have aT := gb aK cw J; have Df := gr Np aI J; have Dd := gr M5 aI J; have aQ := ak (aa); clear aa J aK Np M5 aI)
  | ((with_reducible refine aJ (N := 14) rfl ?_); refine aN rfl 57 (.tmp 1) rfl gX rfl _ _ _ aQ.out Try.underlying57 rfl 68 (by kernel_rfl) (ao _ _ _ _ _ tW.out) ?_)
  | (refine gz rfl 85 #[(0, .const (.string ⟨#[104]⟩)), (1, .const (.string ⟨#[110]⟩))] rfl [.string ⟨#[104]⟩, .string ⟨#[110]⟩] (by kernel_rfl) ?_)
  | (go_at_call 49; refine (HA.out _ _ ⟨_, _, _, _, rfl, ⟨tW.out, (rr Df).1, (rr Df).2, (rr Dd).1, (rr Dd).2⟩⟩).mono ?_; rintro e W4 ⟨v_, ml, rfl, bc, fM, I⟩; obtain ⟨iZ, p6, p7, rfl, dM, ew⟩ := bc; obtain ⟨Af2, ZU, rfl⟩ := Kd.R_slice dM; obtain ⟨Aa2, ZX, rfl⟩ := Kd.R_slice ew; have Rz := ak iZ; obtain ⟨Aq2, cq2, rfl⟩ := Kd.R_slice fM; have bq := mv I aT; have Nn := mv I Df; have M4 := mv I Dd; have bg := mv I aQ; have Nf := ak (dM); have MW := ak (ew); have Mw := ak (fM); clear iZ dM ew fM I aT Df Dd aQ)
  | (refine aH (some 3) rfl rfl 57 rfl bu b6 ?_; intro gY W5 J aa I; have jT := ge bq J; have gC := ne bg J; have bE := mv I bq; have Nm := mv I Nn; have M3 := mv I M4; have bz := mv I bg; have Nd := mv I Nf; have MV := mv I MW; have Mu := mv I Mw; have dY := ak (aa); clear J aa I bq Nn M4 bg Nf MW Mw)
  | (refine a7 rfl 57 (.tmp 3) (.tmp 17) rfl gY (bk c.addr c.aff c.slots (.slice Af2 c.free.length ZU) (.slice Aa2 c.attrs.length ZX)) rfl rfl 57 _ dY.out 68 (by kernel_rfl) (ao _ _ _ _ _ Rz.out) rfl (cA _ _ _ _ _ rfl rfl) ?_; intro W6 aa J; have bZ := gb bE jT J; have Nl := gr Nm dY J; have M0 := gr M3 dY J; have bH := gn bz gC J; have De := gr Nd dY J; have Dc := gr MV dY J; have H6 := gr Mu dY J; have du := ak (aa); clear aa J bE Nm M3 bz Nd MV Mu dY)
  | ((with_reducible refine aJ (N := 21) rfl ?_); refine aN rfl 57 (.tmp 3) rfl gY rfl _ _ _ du.out Try.underlying57 rfl 68 (by kernel_rfl) (ao _ _ _ _ _ Rz.out) ?_)
  | (go_at_call 52; refine (HRL.out _ _ _ _ ⟨_, _, _, _, rfl, ⟨Rz.out, (rr De).1, (rr De).2, (rr Dc).1, (rr Dc).2⟩⟩ (Kd.R_reads' H6.out).2.2).mono ?_; rintro e W7 ⟨v_, ml, rfl, bc, fM, I⟩; obtain ⟨iZ, p6, p7, rfl, dM, ew⟩ := bc; obtain ⟨Af3, ZT, rfl⟩ := Kd.R_slice dM; obtain ⟨Aa3, ZW, rfl⟩ := Kd.R_slice ew; have MB := ak iZ; obtain ⟨Aq3, cq3, rfl⟩ := Kd.R_slice fM; have eH := mv I bZ; have Nk := mv I Nl; have MZ := mv I M0; have dP := mv I bH; have Nc := mv I De; have MU := mv I Dc; have Mt := mv I H6; have iY := mv I du; have M9 := ak (dM); have MQ := ak (ew); have Mr := ak (fM); clear iZ dM ew fM I bZ Nl M0 bH De Dc H6 du)
  | (refine aH (some 6) rfl rfl 57 rfl bu b6 ?_; intro gZ W8 J aa I; have ct := ge eH J; have aU := ne dP J; have gS := ne iY J; have gJ := mv I eH; have Nh := mv I Nk; have MY := mv I MZ; have gH := mv I dP; have Nb := mv I Nc; have MT := mv I MU; have Ms := mv I Mt; have kG := mv I iY; have M8 := mv I M9; have MP := mv I MQ; have Mq := mv I Mr; have gG := ak (aa); clear J aa I eH Nk MZ dP Nc MU Mt iY M9 MQ Mr)
  | (refine a7 rfl 57 (.tmp 6) (.tmp 24) rfl gZ (bk d.addr d.aff d.slots (.slice Af3 d.free.length ZT) (.slice Aa3 d.attrs.length ZW)) rfl rfl 57 _ gG.out 68 (by kernel_rfl) (ao _ _ _ _ _ MB.out) rfl (cA _ _ _ _ _ rfl rfl) ?_; intro W9 aa J; have lp := gb gJ ct J; have Ng := gr Nh gG J; have MX := gr MY gG J; have ln := gn gH aU J; have Na := gr Nb gG J; have MS := gr MT gG J; have wu := gr Ms gG J; have mh := gn kG gS J; have ym := gr M8 gG J; have Db := gr MP gG J; have Mp := gr Mq gG J; have kW := ak (aa); obtain ⟨g2, rfl⟩ := pJ wu.out (by have h_ := HLL.out; omega); obtain ⟨g3, rfl⟩ := pJ ym.out (by have h_ := HDL.out; omega); have Un := (mK wu.out 1 (by have h_ := HLL.out; omega)).1; have Um := (mK ym.out 63 (by have h_ := HDL.out; omega)).1; rw [show ((1 : Nat) : Int) = 1 from rfl, HQ1.out] at Un; rw [show ((63 : Nat) : Int) = 63 from rfl, HD6.out] at Um; have Lq := kW.out.cell 66 _ (gF _ _ _ _ _ MB.out); have pl_ : ((1 : Int) < (l.length : Int)) = True := eq_true (by have h_ := HLL.out; omega); have pd_ : ((63 : Int) < (d.free.length : Int)) = True := eq_true (by have h_ := HDL.out; omega); clear aa J gJ Nh MY gH Nb MT Ms kG M8 MP Mq gG)
  | ((with_reducible refine aJ (N := 67) rfl ?_); refine fk (by rfl) ?_; refine aN rfl 57 (.tmp 6) rfl gZ rfl _ _ _ kW.out Try.underlying57 rfl 68 (by kernel_rfl) (ao _ _ _ _ _ MB.out) ?_)
  | (go_at_call 57; refine (HE.out _ _ ⟨_, _, _, _, rfl, ⟨MB.out, (rr ym).1, (rr ym).2, (rr Db).1, (rr Db).2⟩⟩).mono ?_; rintro e TU ⟨rfl, I⟩; have nY := mv I lp; have aa6 := mv I Ng; have aa3 := mv I MX; have nU := mv I ln; have aa5 := mv I Na; have aa2 := mv I MS; have E5 := mv I wu; have qy := mv I mh; have aa4 := mv I ym; have aa1 := mv I Db; have aa0 := mv I Mp; have oE := mv I kW; clear I lp Ng MX ln Na MS wu mh ym Db Mp kW))
 go_ret
 exact ⟨by simp, nY.out⟩
end Go.Proofs.Ytemhalnhbgkbcaa.V
end

